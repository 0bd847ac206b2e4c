import Derived.Test.YtdimocjaepnifaaGreatDoorX11
set_option linter.all false
set_option maxRecDepth 100000
set_option maxHeartbeats 4000000
namespace Go.Proofs.YtdimocjaepnifaaGreatDoor
open Go Go.Sx
variable {a b c e hi i j lo m:Int}{r s t:D1}{q u x:E0}{g z:Bool}
def fsC(a:Int):(a<128∧fsN a=1∧fsL a=a)∨(((128≤a∧a<192)∨248≤a)∧fsN a=0)∨(192≤a∧a<224∧fsN a=2∧fsL a=a-192)∨(224≤a∧a<240∧fsN a=3∧fsL a=a-224)∨(240≤a∧a<248∧fsN a=4∧fsL a=a-240):=by
 unfold fsN fsL
 (repeat' split)<;>omega
def lnC(a:Int):(a<128∧S3 a=1)∨(194≤a∧a<224∧S3 a=2)∨(224≤a∧a<240∧S3 a=3)∨(240≤a∧a≤244∧S3 a=4)∨(((128≤a∧a<194)∨244<a)∧S3 a=0):=by
 unfold S3
 (repeat' split)<;>omega
def loC(a:Int):(a=224∧loB a=160)∨(a=240∧loB a=144)∨(a≠224∧a≠240∧loB a=128):=by
 unfold loB
 (repeat' split)<;>omega
def hiC(a:Int):(a=237∧hiB a=159)∨(a=244∧hiB a=143)∨(a≠237∧a≠244∧hiB a=191):=by
 unfold hiB
 (repeat' split)<;>omega
def knC(l:List Int):(knd l=0∧(S3 (l.getD 0 0)<(l.length:Int)∨¬okT (l.drop 1) (loB (l.getD 0 0)) (hiB (l.getD 0 0))=true))∨(knd l=1∧(l.length:Int)<S3 (l.getD 0 0)∧okT (l.drop 1) (loB (l.getD 0 0)) (hiB (l.getD 0 0))=true)∨(knd l=2∧(l.length:Int)=S3 (l.getD 0 0)∧okT (l.drop 1) (loB (l.getD 0 0)) (hiB (l.getD 0 0))=true):=by
 unfold knd;by_cases h1:S3 (l.getD 0 0)<(l.length:Int)
 ·rw[A4 h1];exact .inl ⟨rfl,.inl h1⟩
 ·rw[A3 h1];by_cases h2:okT (l.drop 1) (loB (l.getD 0 0)) (hiB (l.getD 0 0))=true
  ·rw[A4 h2];by_cases h3:(l.length:Int)<S3 (l.getD 0 0)
   ·rw[A4 h3];exact .inr (.inl ⟨rfl,h3,h2⟩)
   ·rw[A3 h3];exact .inr (.inr ⟨rfl,A1,h2⟩)
  ·rw[A3 h2];exact .inl ⟨rfl,.inr h2⟩
def ok1(b lo hi:Int):okT [b] lo hi=true↔lo≤b∧b≤hi:=by simp[okT]
def ok2(b c lo hi:Int):okT [b,c] lo hi=true↔lo≤b∧b≤hi∧128≤c∧c≤191:=by simp[okT,and_assoc]
def ok3(b c d lo hi:Int):okT [b,c,d] lo hi=true↔lo≤b∧b≤hi∧128≤c∧c≤191∧128≤d∧d≤191:=by simp[okT,and_assoc]
def kn1(a:Int):(knd [a]=0∧S3 a<1)∨(knd [a]=1∧1<S3 a)∨(knd [a]=2∧S3 a=1):=by
 rcases knC [a]with⟨h,h2|h2⟩|⟨h,h2,h3⟩|⟨h,h2,h3⟩
 ·exact .inl ⟨h,h2⟩
 ·exact absurd rfl h2
 ·exact .inr (.inl ⟨h,h2⟩)
 ·exact .inr (.inr ⟨h,h2.symm⟩)
def kn2(a b:Int):(knd [a,b]=0∧(S3 a<2∨¬(loB a≤b∧b≤hiB a)))∨(knd [a,b]=1∧2<S3 a∧loB a≤b∧b≤hiB a)∨(knd [a,b]=2∧S3 a=2∧loB a≤b∧b≤hiB a):=by
 rcases knC [a,b]with⟨h,h2|h2⟩|⟨h,h2,h3⟩|⟨h,h2,h3⟩
 ·exact .inl ⟨h,.inl h2⟩
 ·exact .inl ⟨h,.inr fun k=>h2 ((ok1 _ _ _).2 k)⟩
 ·exact .inr (.inl ⟨h,h2,(ok1 _ _ _).1 h3⟩)
 ·exact .inr (.inr ⟨h,h2.symm,(ok1 _ _ _).1 h3⟩)
def kn3(a b c:Int):(knd [a,b,c]=0∧(S3 a<3∨¬(loB a≤b∧b≤hiB a∧128≤c∧c≤191)))∨(knd [a,b,c]=1∧3<S3 a∧loB a≤b∧b≤hiB a∧128≤c∧c≤191)∨(knd [a,b,c]=2∧S3 a=3∧loB a≤b∧b≤hiB a∧128≤c∧c≤191):=by
 rcases knC [a,b,c]with⟨h,h2|h2⟩|⟨h,h2,h3⟩|⟨h,h2,h3⟩
 ·exact .inl ⟨h,.inl h2⟩
 ·exact .inl ⟨h,.inr fun k=>h2 ((ok2 _ _ _ _).2 k)⟩
 ·exact .inr (.inl ⟨h,h2,(ok2 _ _ _ _).1 h3⟩)
 ·exact .inr (.inr ⟨h,h2.symm,(ok2 _ _ _ _).1 h3⟩)
def kn4(a b c d:Int):(knd [a,b,c,d]=0∧(S3 a<4∨¬(loB a≤b∧b≤hiB a∧128≤c∧c≤191∧128≤d∧d≤191)))∨(knd [a,b,c,d]=1∧4<S3 a∧loB a≤b∧b≤hiB a∧128≤c∧c≤191∧128≤d∧d≤191)∨(knd [a,b,c,d]=2∧S3 a=4∧loB a≤b∧b≤hiB a∧128≤c∧c≤191∧128≤d∧d≤191):=by
 rcases knC [a,b,c,d]with⟨h,h2|h2⟩|⟨h,h2,h3⟩|⟨h,h2,h3⟩
 ·exact .inl ⟨h,.inl h2⟩
 ·exact .inl ⟨h,.inr fun k=>h2 ((ok3 _ _ _ _ _).2 k)⟩
 ·exact .inr (.inl ⟨h,h2,(ok3 _ _ _ _ _).1 h3⟩)
 ·exact .inr (.inr ⟨h,h2.symm,(ok3 _ _ _ _ _).1 h3⟩)
def leS(n:Int):Int:=([0,0,128,2048,65536]:List Int).getD n.toNat 0
def mxS(n:Int):Int:=([0,127,2047,65535,1114111]:List Int).getD n.toNat 0
def gLo(l:List Int):Int:=((spN l).getD (0,0)).1
def gHi(l:List Int):Int:=((spN l).getD (0,0)).2
def gNn(l:List Int):Int:=spI (spN l) (fsN (l.getD 0 0))
def gIs(l:List Int):Prop:=gNn l≠0∧max (gLo l) (leS (gNn l))≤min (gHi l) (mxS (gNn l))∧¬(55296≤max (gLo l) (leS (gNn l))∧min (gHi l) (mxS (gNn l))≤57343)
def A8m{l:List Int}(h:spN l=none):¬gIs l:=fun k=>k.1 (by unfold gNn;rw[h];rfl)
def B3M{l:List Int}{n:Int}(h:spN l=some (lo,hi))(hn:fsN (l.getD 0 0)=n):gNn l=n∧gLo l=lo∧gHi l=hi:=by
 unfold gNn gLo gHi;rw[h,hn];exact⟨rfl,rfl,rfl⟩
def YY(l:List Int):Prop:=(gIs l↔knd l=1∨knd l=2)∧(gIs l→((l.length:Int)=gNn l↔knd l=2))∧(knd l=2→gLo l=dN l)
def Z3{l:List Int}(h:spN l=none)(h2:knd l=0):YY l :=
 ⟨⟨fun k=>absurd k (A8m h),fun k=>by omega⟩,fun k=>absurd k (A8m h),fun k=>by omega⟩
def jA{l:List Int}{n:Int}(h:spN l=some (lo,hi))(hn:fsN (l.getD 0 0)=n)(he:leS n=e)(hm:mxS n=m)
  (h1:(n≠0∧max lo e≤min hi m∧¬(55296≤max lo e∧min hi m≤57343))↔knd l=1∨knd l=2) (h2:knd l=1∨knd l=2→((l.length:Int)=n↔knd l=2)) (h3:knd l=2→lo=dN l):YY l:=by
 obtain⟨a,b,c⟩:=B3M h hn;have hI:gIs l↔knd l=1∨knd l=2:=by
  unfold gIs;rw[a,b,c,he,hm];exact h1
 exact⟨hI,fun k=>by rw[a];exact h2 (hI.1 k),fun k=>by rw[b];exact h3 k⟩
def pV{l:List Int}{n:Nat}(hl:l.length≠0)(hn:fsN (l.getD 0 0)=(n:Int)+1)(hle:l.length≤n+1):spN l=spL l n 1 (fsL (l.getD 0 0)) (fsL (l.getD 0 0)):=by
 rw[B1w A1 A1,hn,show((n:Int)+1-1).toNat=n by omega]
def pW{l:List Int}(hl:l.length≠0)(h:fsN (l.getD 0 0)<(l.length:Int)):spN l=none:=B1x A1 A1
def B5w(a:Int):dN [a]=a:=rfl
def B5v(a b:Int):dN [a,b]=a%32*64+b%64:=rfl
def B5u(a b c:Int):dN [a,b,c]=(a%16*64+b%64)*64+c%64:=rfl
def B5t(a b c d:Int):dN [a,b,c,d]=((a%8*64+b%64)*64+c%64)*64+d%64:=rfl
def g1(a:Int)(h0:0≤a)(h1:a<256):YY [a]:=by
 have k:=kn1 a;have l:=lnC a;rcases fsC a with⟨q,n,f⟩|⟨q,n⟩|⟨q,q2,n,f⟩|⟨q,q2,n,f⟩|⟨q,q2,n,f⟩
 ·have s:spN [a]=some (fsL a,fsL a):=(pV (l:=[a]) (n:=0) (by simp) (show fsN a=((0:Nat):Int)+1 from n) (by simp)).trans rfl;refine jA s n (show leS 1=0 from rfl) (show mxS 1=127 from rfl) ?_ ?_ ?_
  ·omega
  ·intro _;show(1:Int)=1↔_;omega
  ·intro _;rw[B5w];exact f
 ·exact Z3 (pW (by simp) (by show fsN a<1;omega)) A1
 ·have s:spN [a]=some (fsL a*64,fsL a*64+63):=(pV (l:=[a]) (n:=1) (by simp) (show fsN a=((1:Nat):Int)+1 from n) (by simp)).trans rfl;refine jA s n (show leS 2=128 from rfl) (show mxS 2=2047 from rfl) ?_ ?_ ?_
  ·omega
  ·intro _;show(1:Int)=2↔_;omega
  ·intro _;omega
 ·have s:spN [a]=some (fsL a*64*64,(fsL a*64+63)*64+63):=(pV (l:=[a]) (n:=2) (by simp) (show fsN a=((2:Nat):Int)+1 from n) (by simp)).trans rfl;refine jA s n (show leS 3=2048 from rfl) (show mxS 3=65535 from rfl) ?_ ?_ ?_
  ·omega
  ·intro _;show(1:Int)=3↔_;omega
  ·intro _;omega
 ·have s:spN [a]=some (fsL a*64*64*64,((fsL a*64+63)*64+63)*64+63):=(pV (l:=[a]) (n:=3) (by simp) (show fsN a=((3:Nat):Int)+1 from n) (by simp)).trans rfl;refine jA s n (show leS 4=65536 from rfl) (show mxS 4=1114111 from rfl) ?_ ?_ ?_
  ·omega
  ·intro _;show(1:Int)=4↔_;omega
  ·intro _;omega
def g2(a b:Int)(h0:0≤a)(h1:a<256)(h2:0≤b)(h3:b<256):YY [a,b]:=by
 have k:=kn2 a b;have l:=lnC a;have u:=loC a;have v:=hiC a;rcases fsC a with⟨q,n,f⟩|⟨q,n⟩|⟨q,q2,n,f⟩|⟨q,q2,n,f⟩|⟨q,q2,n,f⟩
 ·exact Z3 (pW (by simp) (by show fsN a<2;omega)) A1
 ·exact Z3 (pW (by simp) (by show fsN a<2;omega)) A1
 ·have s:spN [a,b]=if b<128∨191<b then none else some (fsL a*64+(b-128),fsL a*64+63-63+(b-128)):=(pV (l:=[a,b]) (n:=1) (by simp) (show fsN a=((1:Nat):Int)+1 from n) (by simp)).trans rfl
  by_cases hb:b<128∨191<b
  ·rw[A4 hb]at s;exact Z3 s A1
  ·rw[A3 hb]at s;refine jA s n (show leS 2=128 from rfl) (show mxS 2=2047 from rfl) ?_ ?_ ?_
   ·omega
   ·intro _;show(2:Int)=2↔_;omega
   ·intro _;rw[B5v];omega
 ·have s:spN [a,b]=if b<128∨191<b then none else some ((fsL a*64+(b-128))*64,(fsL a*64+63-63+(b-128))*64+63):=(pV (l:=[a,b]) (n:=2) (by simp) (show fsN a=((2:Nat):Int)+1 from n) (by simp)).trans rfl
  by_cases hb:b<128∨191<b
  ·rw[A4 hb]at s;exact Z3 s A1
  ·rw[A3 hb]at s;refine jA s n (show leS 3=2048 from rfl) (show mxS 3=65535 from rfl) ?_ ?_ ?_
   ·omega
   ·intro _;show(2:Int)=3↔_;omega
   ·intro _;omega
 ·have s:spN [a,b]=if b<128∨191<b then none else some ((fsL a*64+(b-128))*64*64,((fsL a*64+63-63+(b-128))*64+63)*64+63):=(pV (l:=[a,b]) (n:=3) (by simp) (show fsN a=((3:Nat):Int)+1 from n) (by simp)).trans rfl
  by_cases hb:b<128∨191<b
  ·rw[A4 hb]at s;exact Z3 s A1
  ·rw[A3 hb]at s;refine jA s n (show leS 4=65536 from rfl) (show mxS 4=1114111 from rfl) ?_ ?_ ?_
   ·omega
   ·intro _;show(2:Int)=4↔_;omega
   ·intro _;omega
def g3(a b c:Int)(h0:0≤a)(h1:a<256)(h2:0≤b)(h3:b<256)(h4:0≤c)(h5:c<256):YY [a,b,c]:=by
 have k:=kn3 a b c;have l:=lnC a;have u:=loC a;have v:=hiC a;rcases fsC a with⟨q,n,f⟩|⟨q,n⟩|⟨q,q2,n,f⟩|⟨q,q2,n,f⟩|⟨q,q2,n,f⟩
 ·exact Z3 (pW (by simp) (by show fsN a<3;omega)) A1
 ·exact Z3 (pW (by simp) (by show fsN a<3;omega)) A1
 ·exact Z3 (pW (by simp) (by show fsN a<3;omega)) A1
 ·have s:spN [a,b,c]=if b<128∨191<b then none else if c<128∨191<c then none else some ((fsL a*64+(b-128))*64+(c-128),(fsL a*64+63-63+(b-128))*64+63-63+(c-128)):=(pV (l:=[a,b,c]) (n:=2) (by simp) (show fsN a=((2:Nat):Int)+1 from n) (by simp)).trans rfl
  by_cases hb:b<128∨191<b
  ·rw[A4 hb]at s;exact Z3 s A1
  ·rw[A3 hb]at s;by_cases hc:c<128∨191<c
   ·rw[A4 hc]at s;exact Z3 s A1
   ·rw[A3 hc]at s;refine jA s n (show leS 3=2048 from rfl) (show mxS 3=65535 from rfl) ?_ ?_ ?_
    ·omega
    ·intro _;show(3:Int)=3↔_;omega
    ·intro _;rw[B5u];omega
 ·have s:spN [a,b,c]=if b<128∨191<b then none else if c<128∨191<c then none else some (((fsL a*64+(b-128))*64+(c-128))*64,((fsL a*64+63-63+(b-128))*64+63-63+(c-128))*64+63):=(pV (l:=[a,b,c]) (n:=3) (by simp) (show fsN a=((3:Nat):Int)+1 from n) (by simp)).trans rfl
  by_cases hb:b<128∨191<b
  ·rw[A4 hb]at s;exact Z3 s A1
  ·rw[A3 hb]at s;by_cases hc:c<128∨191<c
   ·rw[A4 hc]at s;exact Z3 s A1
   ·rw[A3 hc]at s;refine jA s n (show leS 4=65536 from rfl) (show mxS 4=1114111 from rfl) ?_ ?_ ?_
    ·omega
    ·intro _;show(3:Int)=4↔_;omega
    ·intro _;omega
def g4(a b c d:Int)(h0:0≤a)(h1:a<256)(h2:0≤b)(h3:b<256)(h4:0≤c)(h5:c<256)(h6:0≤d)(h7:d<256):YY [a,b,c,d]:=by
 have k:=kn4 a b c d;have l:=lnC a;have u:=loC a;have v:=hiC a;rcases fsC a with⟨q,n,f⟩|⟨q,n⟩|⟨q,q2,n,f⟩|⟨q,q2,n,f⟩|⟨q,q2,n,f⟩
 ·exact Z3 (pW (by simp) (by show fsN a<4;omega)) A1
 ·exact Z3 (pW (by simp) (by show fsN a<4;omega)) A1
 ·exact Z3 (pW (by simp) (by show fsN a<4;omega)) A1
 ·exact Z3 (pW (by simp) (by show fsN a<4;omega)) A1
 ·have s:spN [a,b,c,d]=if b<128∨191<b then none else if c<128∨191<c then none else if d<128∨191<d then none else some (((fsL a*64+(b-128))*64+(c-128))*64+(d-128),((fsL a*64+63-63+(b-128))*64+63-63+(c-128))*64+63-63+(d-128)):=(pV (l:=[a,b,c,d]) (n:=3) (by simp) (show fsN a=((3:Nat):Int)+1 from n) (by simp)).trans rfl
  by_cases hb:b<128∨191<b
  ·rw[A4 hb]at s;exact Z3 s A1
  ·rw[A3 hb]at s;by_cases hc:c<128∨191<c
   ·rw[A4 hc]at s;exact Z3 s A1
   ·rw[A3 hc]at s;by_cases hd:d<128∨191<d
    ·rw[A4 hd]at s;exact Z3 s A1
    ·rw[A3 hd]at s;refine jA s n (show leS 4=65536 from rfl) (show mxS 4=1114111 from rfl) ?_ ?_ ?_
     ·omega
     ·intro _;show(4:Int)=4↔_;omega
     ·intro _;rw[B5t];omega
open Go Go.Sx Go.Proofs.Tryz
noncomputable def A4T:List LpE:=[(72,([true,true,false,true,false],P3 prog gl n0 7 LP jM)),(72,([true,true,false,true,false,false,true,false,false,true,false],P3 prog gl n0 7 EJ mR))]
def xL{G}(hst:L9 G):r7 prog G gl A4T:=(.cons func72 LO LN (TX hst) (.cons func72 EI EH (LQ hst) .nil))
def plC(b:Int):Int:=if b=9 then 1114136 else if b=13 then 1114135 else if b=127 then 1114137 else if b=0 then 32 else if b≤26 then b+96 else if b<32 then b+64 else b
def plM(b:Int):Int:=if b=9 then 0 else if b=13 then 0 else if b=127 then 0 else if b<32 then 4 else 0
def A5q(h0:0≤b)(h1:b<32):evU (.bin .or) [.int .i64 b,.int .i64 96]=.int .i64 (b+96):=by
 rw[nZ];have k:∀ n:Nat,n<32→IntKind.i64.wrap (BitVec.ofInt IntKind.i64.bits (n:Int) ||| BitVec.ofInt IntKind.i64.bits 96).toNat=(n:Int)+96:=C3;obtain⟨n,rfl⟩:∃ n:Nat,b=n:=⟨b.toNat,A1⟩;exact H3 _ (k n A1)
def A5r(h0:0≤b)(h1:b<32):evU (.bin .or) [.int .i64 b,.int .i64 64]=.int .i64 (b+64):=by
 rw[nZ];have k:∀ n:Nat,n<32→IntKind.i64.wrap (BitVec.ofInt IntKind.i64.bits (n:Int) ||| BitVec.ofInt IntKind.i64.bits 64).toNat=(n:Int)+64:=C3;obtain⟨n,rfl⟩:∃ n:Nat,b=n:=⟨b.toNat,A1⟩;exact H3 _ (k n A1)
noncomputable def B4f:Q1:=⟨_,fun hst=>.nil⟩
def BB:List U→Option (Nat×List U)
 | [.int .u8 b]=>if 0≤b∧b<256 then some (0,[.int .i64 (1),.int .i64 (plC b),.int .i64 (plM b),.int .i64 (0),.int .i64 (0),.int .i64 (0),.int .i64 (0),.str ([])])else none
 | _=>none
def VI(b:Int)(hc:0≤b∧b<256):BB [.int .u8 b]=some (0,[.int .i64 (1),.int .i64 (plC b),.int .i64 (plM b),.int .i64 (0),.int .i64 (0),.int .i64 (0),.int .i64 (0),.str ([])]):=A4 hc
def A74:Tr:=aE [h 0 4,.int .u8 (9)]<|.br 1 (iG 0 1114136) (aE [h 0 4,.int .u8 (13)]<|.br 2 (iG 0 1114135) (aE [h 0 4,.int .u8 (127)]<|.br 3 (iG 0 1114137) (aE [h 0 4,.int .u8 (0)]<|.br 4 (iG 4 32) (aQ [h 0 4,.int .u8 (26)]<|.br 5 (.lt 3 (.conv .i64) [h 0 4]<|.lt 3 (.bin .or) [h3 6,jI 96]<|kN 4 7) (aL [h 0 4,.int .u8 (32)]<|.br 6 (.lt 3 (.conv .i64) [h 0 4]<|.lt 3 (.bin .or) [h3 7,jI 64]<|kN 4 8) (.lt 3 (.conv .i64) [h 0 4]<|kN 0 7))))))
def A75{G}(hst:L9 G):M2 prog G 126 [.s 4] BB [.a [3,3,3,3,3,3,3,9]]:=by
 refine F1 (d:=60) A74 (cxg (B4f.2 hst) (xL hst)) hst ⟨f126,_,func126,rfl⟩ D0 D0 ?_;intro us outs hs;unfold BB at hs;split at hs
 ·skip;rename_i b;split at hs
  ·rename_i hc;cases hs;unfold A74;refine w0 (.cons 0 _ (.nil)) ?_;repeat (first|(refine w7 [.int .i64 _,.int .i64 _,.int .i64 _,.int .i64 _,.int .i64 _,.int .i64 _,.int .i64 _,.str _] ?_;rotate_left)|refine w4 (fun g=>?_) fun g=>?_|refine fV ?_|refine cE ?_|refine U1 ?_|refine mN ?_|refine w1 (.bin .or) (e:=A5q A1 A1) (k':=?_)|refine cD ?_|refine w1 (.bin .or) (e:=A5r A1 A1) (k':=?_))
   all_goals
    unfold plC plM;first
    | (exfalso;omega)
    | (subst_vars;rfl)
    | (repeat (first|rw[A3 A1]|rw[A4 A1]))
  ·cases hs
 ·cases hs
def ipK(c m:Int):Y2:=(1,c,m,0,0,0,0,[])
def cP:List Int→E0→E0
 | [],p=>p
 | c::r,p=>if c<128 then(if c=27 then cP r (some [27])else cP r none)else cP r p
def cI:List Int→Int→Option (List Y2)→Option (List Y2)
 | [],_,l=>l
 | c::r,m,l=>if c<128 then(if c=27 then cI r 0 l else cI r 0 (some (el l++[ipK (plC c) (plM c)])))else if 159<c then cI r 0 (some (el l++[ipK c m]))else cI r 0 l
def B5z{l:List Int}{p:E0}(h:¬i<(l.length:Int)):cP (l.drop i.toNat) p=p:=by rw[v8 l A1];rfl
def B50{l:List Int}{p:Option (List Y2)}(h:¬i<(l.length:Int)):cI (l.drop i.toNat) m p=p:=by rw[v8 l A1];rfl
def A6K{l:List Int}(p:E0)(h0:0≤i)(h1:i<(l.length:Int)):cP (l.drop i.toNat) p=if l.getD i.toNat default<128 then(if l.getD i.toNat default=27 then cP (l.drop (i+1).toNat) (some [27])else cP (l.drop (i+1).toNat) none)else cP (l.drop (i+1).toNat) p:=by
 rw[R3 l h0 h1];rfl
def A6L{l:List Int}(m:Int)(p:Option (List Y2))(h0:0≤i)(h1:i<(l.length:Int)):cI (l.drop i.toNat) m p=if l.getD i.toNat default<128 then(if l.getD i.toNat default=27 then cI (l.drop (i+1).toNat) 0 p else cI (l.drop (i+1).toNat) 0 (some (el p++[ipK (plC (l.getD i.toNat default)) (plM (l.getD i.toNat default))])))else if 159<l.getD i.toNat default then cI (l.drop (i+1).toNat) 0 (some (el p++[ipK (l.getD i.toNat default) m]))else cI (l.drop (i+1).toNat) 0 p:=by
 rw[R3 l h0 h1];rfl
def A7t(b:Int):plM b=0∨plM b=4:=by unfold plM;(repeat' split)<;>simp
def B0m(h:a=0∨a=4):evU (.bin .or) [.int .i64 a,.int .i64 0]=.int .i64 a:=by
 rcases h with rfl|rfl<;>rfl
noncomputable def B4s:Q1:=⟨_,fun hst=>(.cons (lW hst) (.cons (A6k hst) (.cons (A75 hst) .nil)))⟩
def lU:List U→Option (Nat×List U)
 | [.int .i64 mods,u_rest,u_co,u_cs,.int .i64 n,.int .i64 i,u_p,u_inp,u_mp]=>(J8 rB u_rest).bind fun rest=>(J8 rN u_co).bind fun co=>(J8 rN u_cs).bind fun cs=>(J8 rB u_p).bind fun p=>(J8 rI u_inp).bind fun inp=>(J8 rQ u_mp).bind fun mp=>if n=((el cs).length:Int)∧0≤i∧i≤n∧n≤100∧((el inp).length:Int)+(n-i)≤1000000∧(∀ x ∈ el cs,0≤x∧x≤1114111)then some (0,[B6 rB rest,B6 rN co,B6 rB (cP ((el cs).drop i.toNat) p),B6 rI (cI ((el cs).drop i.toNat) mods inp),B6 rQ mp])else none
 | _=>none
def cZ(mods:Int)(rest:E0)(co:E0)(cs:E0)(n:Int)(i:Int)(p:E0)(inp:(Option (List (Int×Int×Int×Int×Int×Int×Int×D1))))(mp:(Option (List (D1×Int×Int×Int×Int×Int×Int×Int×D1))))(hc:n=((el cs).length:Int)∧0≤i∧i≤n∧n≤100∧((el inp).length:Int)+(n-i)≤1000000∧(∀ x ∈ el cs,0≤x∧x≤1114111)):lU [.int .i64 mods,B6 rB rest,B6 rN co,B6 rN cs,.int .i64 n,.int .i64 i,B6 rB p,B6 rI inp,B6 rQ mp]=some (0,[B6 rB rest,B6 rN co,B6 rB (cP ((el cs).drop i.toNat) p),B6 rI (cI ((el cs).drop i.toNat) mods inp),B6 rQ mp]):=by
 simp only[lU,G9,D8];exact A4 hc
def A8u:Q8:=⟨[(0,.pointer (some ⟨9,0,none⟩)),(8,h 0 3),(10,dat 15 1 11),(11,dat 16 2 11),(66,dat 17 3 11),(67,h 4 3),(68,h 5 3)],[(9,.cells 83 [dat 18 6 11,.map (some 7),own 19 7 18]),(7,.mp 8 19 81),(19,.sq 7 18 23 20),(15,.frz),(16,.frz),(17,.frz),(18,.frz),(20,.frz)],9,[⟨.exit 1,[(0,.pointer (some ⟨9,0,none⟩)),(10,dat 21 0 11),(11,dat 22 1 11)],[(9,.cells 83 [dat 23 2 11,.map (some 7),own 24 3 18]),(7,.mp 4 19 81),(24,.sq 3 18 23 25),(21,.frz),(22,.frz),(23,.frz),(25,.frz)],5⟩]⟩
noncomputable def A2u:Code:=(f99.body).getD .skip
noncomputable def A8q:Code:=match I0 [true,true,true,true,true,false,true,false] A2u with|some (.loop x)=>x|_=>.skip
def A8t:f99.body=some A2u:=rfl
def A8s:I0 [true,true,true,true,true,false,true,false] A2u=some (.loop A8q):=D0
def yJ(a0:Nat)(a1:Nat)(a2:Nat):Tr:=.ret [jI (-1),jI 0,h 1 11,h 2 11,h 3 11,h3 4,h3 a1,h a2 11,h a0 18,h 8 19]
def A8r:Tr:=p7 5 4 9 (x7 5 3 10 (.lt 3 (.get 1 0) [h 3 11,h3 5]<|S6 11 12 128 (.lt 4 (.conv .u8) [h3 11]<|aE [h 13 4,.int .u8 (27)]<|.br 14 (aA [h3 5,jI 1]<|.dt 11 (.mk 1) [.int .u8 (27)]<|yJ 7 15 16) (aL [h 13 4,.int .u8 (128)]<|.br 15 (.fn BB [h 13 4] 8<|.lt 3 (.bin .or) [h3 18,jI 0]<|.dt 18 (.snoc 8) [h 7 18,h3 16,h3 17,h3 24,h3 19,h3 20,h3 21,h3 22,h 23 9]<|aA [h3 5,jI 1]<|.dt 11 (.nilw 1) []<|yJ 25 26 27) (.no))) (aV 11 13 159 (.dt 18 (.snoc 8) [h 7 18,jI 1,h3 11,h3 0,jI 0,jI 0,jI 0,jI 0,.string ⟨⟨[]⟩⟩]<|aA [h3 5,jI 1]<|yJ 14 15 6) (aA [h3 5,jI 1]<|yJ 7 14 6)))) (.ret [jI 0,h 1 11,h 2 11,h 6 11,h 7 18,h 8 19])
def A2t:List U→Nat
 | [.int .i64 mods,u_rest,u_co,u_cs,.int .i64 n,.int .i64 i,u_p,u_inp,u_mp]=>(match J8 rB u_rest with|some rest=>(match J8 rN u_co with|some co=>(match J8 rN u_cs with|some cs=>(match J8 rB u_p with|some p=>(match J8 rI u_inp with|some inp=>(match J8 rQ u_mp with|some mp=>(n-i).toNat|none=>0)|none=>0)|none=>0)|none=>0)|none=>0)|none=>0)
 | _=>0
def nX(mods:Int)(rest:E0)(co:E0)(cs:E0)(n:Int)(i:Int)(p:E0)(inp:(Option (List (Int×Int×Int×Int×Int×Int×Int×D1))))(mp:(Option (List (D1×Int×Int×Int×Int×Int×Int×Int×D1)))):A2t [.int .i64 mods,B6 rB rest,B6 rN co,B6 rN cs,.int .i64 n,.int .i64 i,B6 rB p,B6 rI inp,B6 rQ mp]=(n-i).toNat:=by
 simp only[A2t,G9]
def B3S{G}(hst:L9 G):∀ (E:Nat→U) (base:Nat),@X1 ⟨E,G⟩ prog base gl f99.ntmps A8q (P3 prog gl n0 26 A8u lU):=by
 refine l6 (dep:=60) (f:=99) (n0:=n0) (nB:=26) (H0:=H0) A2t A8r (cxg (B4s.2 hst) (xL hst)) hst func99 A8t A8s D0 D0 D0 ?_;intro us d outs hs;have hs0:=hs;unfold lU at hs;split at hs
 ·skip;rename_i mods u_rest u_co u_cs n i u_p u_inp u_mp;have hq_rest:=A9.1 hs;clear hs;obtain⟨rest,hd_rest,hs⟩:=hq_rest;replace hd_rest:=G1 hd_rest;subst hd_rest;have hq_co:=A9.1 hs;clear hs;obtain⟨co,hd_co,hs⟩:=hq_co;replace hd_co:=G1 hd_co;subst hd_co;have hq_cs:=A9.1 hs;clear hs;obtain⟨cs,hd_cs,hs⟩:=hq_cs;replace hd_cs:=G1 hd_cs;subst hd_cs;have hq_p:=A9.1 hs;clear hs;obtain⟨p,hd_p,hs⟩:=hq_p;replace hd_p:=G1 hd_p;subst hd_p;have hq_inp:=A9.1 hs;clear hs;obtain⟨inp,hd_inp,hs⟩:=hq_inp;replace hd_inp:=G1 hd_inp;subst hd_inp;have hq_mp:=A9.1 hs;clear hs;obtain⟨mp,hd_mp,hs⟩:=hq_mp;replace hd_mp:=G1 hd_mp;subst hd_mp;split at hs
  ·rename_i hc;clear hs hs0;have zb:i<n→0≤((el cs).getD i.toNat default)∧((el cs).getD i.toNat default)≤1114111:=fun h=>fE (l:=el cs) hc.2.2.2.2.2 A1 A1
   refine⟨rfl,?_⟩;unfold A8r;refine w0 (.cons 8 _ (.cons 7 _ (.cons 6 _ (.cons 5 _ (.cons 4 _ (.cons 3 _ (.cons 2 _ (.cons 1 _ (.cons 0 _ (.nil)))))))))) ?_;refine cD ?_;refine w5 (fun g0=>?_) fun g0=>?_
   ·refine w7 [.int .i64 _,B6 rB _,B6 rN _,B6 rB _,B6 rI _,B6 rQ _] ?_;refine L7 (d:=0) ?_;rw[cZ mods rest co cs n i p inp mp hc,B5z (l:=el cs) (i:=i) A1,B50 (l:=el cs) (i:=i) A1]
   have zb:=zb g0;refine eH ?_;refine w5 (fun g1=>?_) fun g1=>?_
   ·refine w8 ?_;first|omega
   refine w1 (.get 1 0) (u:=.int .i64 _) (e:=J6 rfl A1 A1 rfl) (k':=?_);refine cD ?_;refine w4 (fun g2=>?_) fun g2=>?_
   ·refine fV ?_;refine U1 ?_;refine w4 (fun g3=>?_) fun g3=>?_
    ·first|refine y7 ?_|refine V4 ?_
     refine w2 (.mk 1) (r:=rB) (e:=S7 [_] rfl C3 rfl) (k':=?_);refine w7 [.int .i64 _,.int .i64 _,B6 rB _,B6 rN _,B6 rN _,.int .i64 _,.int .i64 _,B6 rB _,B6 rI _,B6 rQ _] ?_;refine P4 ?_ ?_
     ·have z1:=A6K (l:=el cs) (i:=i) p A1 A1;have z2:=A6L (l:=el cs) (i:=i) mods inp A1 A1;rw[A4 g2,A4 g3]at z1;rw[A4 g2,A4 g3]at z2;rw[cZ 0 rest co cs n (i+1) (some [27]) inp mp ⟨hc.1,A1,A1,hc.2.2.2.1,A1,hc.2.2.2.2.2⟩,cZ mods rest co cs n i p inp mp hc,z1,z2]
     ·rw[nX,nX];omega
    refine cD ?_;refine w5 (fun g4=>?_) fun g4=>?_
    ·refine w8 ?_;first|omega
    refine w3 BB (e:=VI _ ⟨A1,A1⟩) (k':=?_);show Wk _ _ (.cons _ _ (.cons _ _ (.cons _ _ (.cons _ _ (.cons _ _ (.cons _ _ (.cons _ _ (.cons _ _ _))))))));refine w1 (.bin .or) (e:=B0m (A7t _)) (k':=?_);refine w2 (.snoc 8) (r:=rI) (e:=U5 (a:=(_,_,_,_,_,_,_,_)) rfl rfl C3 (by simp[*]<;>omega)) (k':=?_);first|refine y7 ?_|refine V4 ?_
    refine w2 (.nilw 1) (r:=rB) (e:=J2 rfl) (k':=?_);refine w7 [.int .i64 _,.int .i64 _,B6 rB _,B6 rN _,B6 rN _,.int .i64 _,.int .i64 _,B6 rB _,B6 rI _,B6 rQ _] ?_;refine P4 ?_ ?_
    ·have z1:=A6K (l:=el cs) (i:=i) p A1 A1;have z2:=A6L (l:=el cs) (i:=i) mods inp A1 A1;rw[A4 g2,A3 g3]at z1;rw[A4 g2,A3 g3]at z2;have hx:∀ Y,Y=(some (el inp++[ipK (plC ((el cs).getD i.toNat default)) (plM ((el cs).getD i.toNat default))]))→lU [.int .i64 0,B6 rB rest,B6 rN co,B6 rN cs,.int .i64 n,.int .i64 (i+1),B6 rB none,B6 rI Y,B6 rQ mp]=lU [.int .i64 mods,B6 rB rest,B6 rN co,B6 rN cs,.int .i64 n,.int .i64 i,B6 rB p,B6 rI inp,B6 rQ mp]:=fun Y hY=>by
      rw[cZ 0 rest co cs n (i+1) none Y mp ⟨hc.1,A1,A1,hc.2.2.2.1,by rw[hY,E8,A7,B7];omega,hc.2.2.2.2.2⟩,cZ mods rest co cs n i p inp mp hc,z1,z2,hY]
     exact hx _ rfl
    ·rw[nX,nX];omega
   refine mO ?_;refine w4 (fun g3=>?_) fun g3=>?_
   ·refine w2 (.snoc 8) (r:=rI) (e:=U5 (a:=(_,_,_,_,_,_,_,_)) rfl rfl C3 (by simp[*]<;>omega)) (k':=?_);first|refine y7 ?_|refine V4 ?_
    refine w7 [.int .i64 _,.int .i64 _,B6 rB _,B6 rN _,B6 rN _,.int .i64 _,.int .i64 _,B6 rB _,B6 rI _,B6 rQ _] ?_;refine P4 ?_ ?_
    ·have z1:=A6K (l:=el cs) (i:=i) p A1 A1;have z2:=A6L (l:=el cs) (i:=i) mods inp A1 A1;rw[A3 g2]at z1;rw[A3 g2,A4 g3]at z2;have hx:∀ Y,Y=(some (el inp++[ipK ((el cs).getD i.toNat default) mods]))→lU [.int .i64 0,B6 rB rest,B6 rN co,B6 rN cs,.int .i64 n,.int .i64 (i+1),B6 rB p,B6 rI Y,B6 rQ mp]=lU [.int .i64 mods,B6 rB rest,B6 rN co,B6 rN cs,.int .i64 n,.int .i64 i,B6 rB p,B6 rI inp,B6 rQ mp]:=fun Y hY=>by
      rw[cZ 0 rest co cs n (i+1) p Y mp ⟨hc.1,A1,A1,hc.2.2.2.1,by rw[hY,E8,A7,B7];omega,hc.2.2.2.2.2⟩,cZ mods rest co cs n i p inp mp hc,z1,z2,hY]
     exact hx _ rfl
    ·rw[nX,nX];omega
   first|refine y7 ?_|refine V4 ?_
   refine w7 [.int .i64 _,.int .i64 _,B6 rB _,B6 rN _,B6 rN _,.int .i64 _,.int .i64 _,B6 rB _,B6 rI _,B6 rQ _] ?_;refine P4 ?_ ?_
   ·have z1:=A6K (l:=el cs) (i:=i) p A1 A1;have z2:=A6L (l:=el cs) (i:=i) mods inp A1 A1;rw[A3 g2]at z1;rw[A3 g2,A3 g3]at z2;rw[cZ 0 rest co cs n (i+1) p inp mp ⟨hc.1,A1,A1,hc.2.2.2.1,A1,hc.2.2.2.2.2⟩,cZ mods rest co cs n i p inp mp hc,z1,z2]
   ·rw[nX,nX];omega
  ·cases hs
 ·cases hs
def gQ:List U→Option (Nat×List U)
 | [.str s,.str u]=>some (0,[.bool (Lib.hasPrefix s u)])
 | _=>none
def yZ(s:D1)(u:D1):gQ [.str s,.str u]=some (0,[.bool (Lib.hasPrefix s u)]):=rfl
def VT{G}(hst:L9 G):M2 prog G 54 [.s 9,.s 9] gQ [.s 8]:=by
 intro us outs w vs R hsh hs hG hR;unfold gQ at hs;split at hs
 ·skip;rename_i s u;cases hs;have hv:=m9 (vs2:=[.string ⟨⟨s⟩⟩,.string ⟨⟨u⟩⟩]) hsh rfl;subst hv;refine uD (vr:=[.bool (Lib.hasPrefix s u)]) func54 rfl D0 rfl ?_;exact(Tryz.strings_HasPrefix ⟨⟨s⟩⟩ ⟨⟨u⟩⟩ w).mono fun e w' ⟨h1,h2⟩=>⟨h1,by subst h2;exact RowKit.Below.refl _ _⟩
 ·cases hs
def PG:List U→Option (Nat×List U)
 | [.str s,.str u]=>some (0,[.str (Lib.trimPrefix s u),.bool (Lib.hasPrefix s u)])
 | _=>none
def A6E(s:D1)(u:D1):PG [.str s,.str u]=some (0,[.str (Lib.trimPrefix s u),.bool (Lib.hasPrefix s u)]):=rfl
def B3p{G}(hst:L9 G):M2 prog G 142 [.s 9,.s 9] PG [.s 9,.s 8]:=by
 intro us outs w vs R hsh hs hG hR;unfold PG at hs;split at hs
 ·skip;rename_i s u;cases hs;have hv:=m9 (vs2:=[.string ⟨⟨s⟩⟩,.string ⟨⟨u⟩⟩]) hsh rfl;subst hv;refine uD (vr:=[.string ⟨⟨Lib.trimPrefix s u⟩⟩,.bool (Lib.hasPrefix s u)]) func142 rfl D0 rfl ?_;exact(Tryz.strings_CutPrefix ⟨⟨s⟩⟩ ⟨⟨u⟩⟩ w).mono fun e w' ⟨h1,h2⟩=>⟨h1,by subst h2;exact RowKit.Below.refl _ _⟩
 ·cases hs
def rP:Rw E0:=r1 (cSl rN)
def KF(n:Int):Bool:=decide (n < -1∨9999<n)
def A36{n:Int}(h:n < -1∨9999<n):KF n=true:=F4 h
def A37{n:Int}(h:¬(n < -1∨9999<n)):KF n=false:=F6 h
noncomputable def B4p:Q1:=⟨_,fun hst=>.nil⟩
def xB:List U→Option (Nat×List U)
 | [u_s,.int .i64 n,.int .i64 i]=>(J8 rN u_s).bind fun s=>if n=((el s).length:Int)∧0≤i∧i≤n∧n≤1000000000 then fT (Y4 KF ((el s).drop i.toNat) i) [] (fun j=>[.int .i64 j])else none
 | _=>none
def tL(s:E0)(n:Int)(i:Int)(hc:n=((el s).length:Int)∧0≤i∧i≤n∧n≤1000000000):xB [B6 rN s,.int .i64 n,.int .i64 i]=fT (Y4 KF ((el s).drop i.toNat) i) [] (fun j=>[.int .i64 j]):=by
 simp only[xB,G9,D8];exact A4 hc
def A8j:Q8:=⟨[(0,dat 8 0 11),(1,.func (.func 172) ⟨[]⟩ ⟨[]⟩),(7,h 1 3),(8,h 2 3)],[(8,.frz)],3,[⟨.exit 0,[],[],0⟩,⟨.ret,[(4,h 0 3)],[],1⟩]⟩
noncomputable def A2i:Code:=(f175.body).getD .skip
noncomputable def A8f:Code:=match I0 [true,false,true,false] A2i with|some (.loop x)=>x|_=>.skip
def A8i:f175.body=some A2i:=rfl
def A8h:I0 [true,false,true,false] A2i=some (.loop A8f):=D0
def A8g:Tr:=p7 2 1 3 (x7 2 0 4 (.lt 3 (.get 1 0) [h 0 11,h3 2]<|S6 5 6 (-1) (.ret [jI 1,h3 2]) (aV 5 7 9999 (.ret [jI 1,h3 2]) (aA [h3 2,jI 1]<|.ret [jI (-1),h 0 11,h3 1,h3 8])))) (K8 0)
def A2h:List U→Nat
 | [u_s,.int .i64 n,.int .i64 i]=>(match J8 rN u_s with|some s=>(n-i).toNat|none=>0)
 | _=>0
def A2g(s:E0)(n:Int)(i:Int):A2h [B6 rN s,.int .i64 n,.int .i64 i]=(n-i).toNat:=by
 simp only[A2h,G9]
def B3J{G}(hst:L9 G):∀ (E:Nat→U) (base:Nat),@X1 ⟨E,G⟩ prog base gl f175.ntmps A8f (P3 prog gl n0 9 A8j xB):=by
 refine l6 (dep:=60) (f:=175) (n0:=n0) (nB:=9) (H0:=H0) A2h A8g (cxg (B4p.2 hst) .nil) hst func175 A8i A8h D0 D0 D0 ?_;intro us d outs hs;have hs0:=hs;unfold xB at hs;split at hs
 ·skip;rename_i u_s n i;have hq_s:=A9.1 hs;clear hs;obtain⟨s,hd_s,hs⟩:=hq_s;replace hd_s:=G1 hd_s;subst hd_s;split at hs
  ·rename_i hc;clear hs hs0;refine⟨rfl,?_⟩;unfold A8g;refine w0 (.cons 2 _ (.cons 1 _ (.cons 0 _ (.nil)))) ?_;repeat (first|refine w4 (fun g=>?_) fun g=>?_|refine cD ?_|(refine w7 [.int .i64 _,.int .i64 _] ?_;rotate_left)|refine y7 ?_|refine V4 ?_|refine eH ?_|refine w1 (.get 1 0) (u:=.int .i64 _) (e:=J6 rfl A1 A1 rfl) (k':=?_)|refine mO ?_|(refine w7 [.int .i64 _,B6 rN _,.int .i64 _,.int .i64 _] ?_;rotate_left)|(refine w8 ?_;first|omega|(simp_all;done)|(simp_all;omega))|(refine w7 [.int .i64 _] ?_;rotate_left))
   all_goals first
    | refine P4 ?_ ?_
      ·rw[tL s n (i+1) A1,tL s n i A1,qQ (i:=i) A1 A1 (A37 A1)]
      ·rw[A2g,A2g];omega
    | refine L7 (d:=0) ?_
      rw[tL s n i A1,vM A1];rfl
    | refine L7 (d:=1) ?_
      rw[tL s n i A1,vL A1 A1 (A36 A1)];rfl
  ·cases hs
 ·cases hs
noncomputable def A9b:List LpE:=(175,([true,false,true,false],P3 prog gl n0 9 A8j xB))::[]
def CZ{G}(hst:L9 G):r7 prog G gl A9b:=.cons func175 A8i A8h (B3J hst) .nil
def fD(p:E0):Bool:=decide ((el p).length=0) || (decide (6<(el p).length) || (el p).any KF)
def KE(p:E0)(h:((el p).length:Int)=0):fD p=true:=by
 have:(el p).length=0:=A1;simp[fD,this]
def KD(p:E0)(h:6<((el p).length:Int)):fD p=true:=by
 have:6<(el p).length:=A1;simp[fD,this]
def KC(p:E0)(h:¬((el p).length:Int)=0)(h2:¬6<((el p).length:Int))(hf:Y4 KF ((el p).drop (0:Int).toNat) 0=none):fD p=false:=by
 have h1:¬(el p).length=0:=A1;have h2:¬6<(el p).length:=A1;rcases jZ (p:=KF) (el p) 0 C3 with⟨_,q⟩|⟨j,q,_⟩
 ·simp[fD,h1,h2,q]
 ·rw[cO,q]at hf;cases hf
def KB(p:E0)(hf:Y4 KF ((el p).drop (0:Int).toNat) 0=some j):0≤j∧fD p=true:=by
 rcases jZ (p:=KF) (el p) 0 C3 with⟨q,_⟩|⟨j,q,q1,q2⟩
 ·rw[cO,q]at hf;cases hf
 ·rw[cO,q]at hf;cases hf;exact⟨q1,by simp[fD,q2]⟩
noncomputable def B47:Q1:=⟨_,fun hst=>.nil⟩
def HC:List U→Option (Nat×List U)
 | [u_p]=>(J8 rN u_p).bind fun p=>if(el p).length≤1000000000 then some (0,[.bool (fD p)])else none
 | _=>none
def A6R(p:E0)(hc:(el p).length≤1000000000):HC [B6 rN p]=some (0,[.bool (fD p)]):=by
 simp only[HC,G9,D8];exact A4 hc
def A9V:Tr:=eQ 0 0 1 cB (aV 1 3 6 cB (.lp xB [h 0 11,h3 1,jI 0] 0 0 (J5) (.lp xB [h 0 11,h3 1,jI 0] 1 1 (aH [h3 4,jI 0]<|.ret [h 5 8]) (.no))))
def CT{G}(hst:L9 G):M2 prog G 170 [.a [11]] HC [.s 8]:=by
 refine F1 (d:=60) A9V (cxg (B47.2 hst) (CZ hst)) hst ⟨f170,_,func170,rfl⟩ D0 D0 ?_;intro us outs hs;unfold HC at hs;split at hs
 ·skip;rename_i u_p;have hq_p:=A9.1 hs;clear hs;obtain⟨p,hd_p,hs⟩:=hq_p;replace hd_p:=G1 hd_p;subst hd_p;split at hs
  ·rename_i hc;cases hs;unfold A9V;refine w0 (.cons 0 _ (.nil)) ?_;refine W8 ?_;refine U1 ?_;refine w4 (fun g0=>?_) fun g0=>?_
   ·refine w7 [.bool _] ?_;first|(rw[KE p A1];done)|(rw[KD p A1];done)|(rw[KC p A1 A1 g2];done)|(obtain⟨q1,q2⟩:=KB p g2;rw[q2,F4 q1])
   refine mO ?_;refine w4 (fun g1=>?_) fun g1=>?_
   ·refine w7 [.bool _] ?_;first|(rw[KE p A1];done)|(rw[KD p A1];done)|(rw[KC p A1 A1 g2];done)|(obtain⟨q1,q2⟩:=KB p g2;rw[q2,F4 q1])
   refine w6 xB (tL _ _ _ A1) (h0:=fun g2=>?_) (h1:=fun v2 g2=>?_)
   ·show Wk _ _ _;refine w7 [.bool _] ?_;first|(rw[KE p A1];done)|(rw[KD p A1];done)|(rw[KC p A1 A1 g2];done)|(obtain⟨q1,q2⟩:=KB p g2;rw[q2,F4 q1])
   show Wk _ _ (.cons _ _ _);refine jK ?_;refine w7 [.bool _] ?_;first|(rw[KE p A1];done)|(rw[KD p A1];done)|(rw[KC p A1 A1 g2];done)|(obtain⟨q1,q2⟩:=KB p g2;rw[q2,F4 q1])
  ·cases hs
 ·cases hs
noncomputable def B4o:Q1:=⟨_,fun hst=>(.cons (CT hst) .nil)⟩
def xA:List U→Option (Nat×List U)
 | [u_s,.int .i64 n,.int .i64 i]=>(J8 rP u_s).bind fun s=>if n=((el s).length:Int)∧0≤i∧i≤n∧n≤1000000000∧∀ p ∈ el s,(el p).length≤1000000000 then fT (Y4 fD ((el s).drop i.toNat) i) [] (fun j=>[.int .i64 j])else none
 | _=>none
def tK(s:(Option (List E0)))(n:Int)(i:Int)(hc:n=((el s).length:Int)∧0≤i∧i≤n∧n≤1000000000∧∀ p ∈ el s,(el p).length≤1000000000):xA [B6 rP s,.int .i64 n,.int .i64 i]=fT (Y4 fD ((el s).drop i.toNat) i) [] (fun j=>[.int .i64 j]):=by
 simp only[xA,G9,D8];exact A4 hc
def A8e:Q8:=⟨[(0,dat 7 0 11),(1,.func (.func 170) ⟨[]⟩ ⟨[]⟩),(7,h 1 3),(8,h 2 3)],[(7,.frz)],3,[⟨.exit 0,[],[],0⟩,⟨.ret,[(4,h 0 3)],[],1⟩]⟩
noncomputable def A2f:Code:=(f176.body).getD .skip
noncomputable def A8a:Code:=match I0 [true,false,true,false] A2f with|some (.loop x)=>x|_=>.skip
def A8d:f176.body=some A2f:=rfl
def A8c:I0 [true,false,true,false] A2f=some (.loop A8a):=D0
def A8b:Tr:=p7 2 1 3 (x7 2 0 4 (.dt 11 (.get 1 0) [h 0 11,h3 2]<|.fn HC [h 5 11] 1<|.br 6 (.ret [jI 1,h3 2]) (aA [h3 2,jI 1]<|.ret [jI (-1),h 0 11,h3 1,h3 7]))) (K8 0)
def A2e:List U→Nat
 | [u_s,.int .i64 n,.int .i64 i]=>(match J8 rP u_s with|some s=>(n-i).toNat|none=>0)
 | _=>0
def A2d(s:(Option (List E0)))(n:Int)(i:Int):A2e [B6 rP s,.int .i64 n,.int .i64 i]=(n-i).toNat:=by
 simp only[A2e,G9]
def B3I{G}(hst:L9 G):∀ (E:Nat→U) (base:Nat),@X1 ⟨E,G⟩ prog base gl f176.ntmps A8a (P3 prog gl n0 8 A8e xA):=by
 refine l6 (dep:=60) (f:=176) (n0:=n0) (nB:=8) (H0:=H0) A2e A8b (cxg (B4o.2 hst) (CZ hst)) hst func176 A8d A8c D0 D0 D0 ?_;intro us d outs hs;have hs0:=hs;unfold xA at hs;split at hs
 ·skip;rename_i u_s n i;have hq_s:=A9.1 hs;clear hs;obtain⟨s,hd_s,hs⟩:=hq_s;replace hd_s:=G1 hd_s;subst hd_s;split at hs
  ·rename_i hc;clear hs hs0;refine⟨rfl,?_⟩;unfold A8b;refine w0 (.cons 2 _ (.cons 1 _ (.cons 0 _ (.nil)))) ?_;refine cD ?_;refine w5 (fun g0=>?_) fun g0=>?_
   ·refine w7 [.int .i64 _] ?_;refine L7 (d:=0) ?_;rw[tK s n i hc,vM A1];rfl
   refine eH ?_;refine w5 (fun g1=>?_) fun g1=>?_
   ·refine w8 ?_;first|omega|(simp_all;done)|(simp_all;omega)
   refine w2 (.get 1 0) (r:=rN) (e:=J6 rfl A1 A1 rfl) (k':=?_);refine w31 HC (e:=A6R _ (fE hc.2.2.2.2 A1 A1)) (k':=?_);first|refine w4 (fun g2=>?_) (fun g2=>?_)|refine w4B (fun g2=>?_) (fun g2=>?_)
   ·refine w7 [.int .i64 _,.int .i64 _] ?_;refine L7 (d:=1) ?_;rw[tK s n i hc,vL A1 A1 (by simpa using g2)];rfl
   first|refine y7 ?_|refine V4 ?_
   refine w7 [.int .i64 _,B6 rP _,.int .i64 _,.int .i64 _] ?_;refine P4 ?_ ?_
   ·rw[tK s n (i+1) ⟨hc.1,A1,A1,hc.2.2.2⟩,tK s n i hc,qQ (i:=i) A1 A1 (by simpa using g2)]
   ·rw[A2d,A2d];omega
  ·cases hs
 ·cases hs
noncomputable def A9a:List LpE:=(176,([true,false,true,false],P3 prog gl n0 8 A8e xA))::A9b
def dP{G}(hst:L9 G):r7 prog G gl A9a:=.cons func176 A8d A8c (B3I hst) (CZ hst)
def cN(l:Option (List E0)):Bool :=
 match el l with
 | [p]=>match el p with
   | [n]=>decide (n = -1)
   | _=>false
 | _=>false
abbrev at0{α:Type}[Inhabited α](l:List α):α:=l.getD (0:Int).toNat default
def RP{α:Type}[Inhabited α]{l:List α}(h:(l.length:Int)=1):l=[at0 l]:=by
 match l,h with
 | [a],_=>rfl
 | [],h=>simp at h
 | _::_::_,h=>simp at h;omega
def A3H(l:Option (List E0))(h1:((el l).length:Int)=1)(h2:((el (at0 (el l))).length:Int)=1):cN l=decide (at0 (el (at0 (el l))) = -1):=by
 have e1:=RP h1;have e2:=RP h2;generalize at0 (el (at0 (el l)))=n at e2 ⊢;generalize at0 (el l)=p at e1 e2;unfold cN;rw[e1];simp only[e2]
def A3G(l:Option (List E0))(h1:¬((el l).length:Int)=1):cN l=false:=by
 unfold cN;split
 ·rename_i p h;rw[h]at h1;simp at h1
 ·rfl
def A3F(l:Option (List E0))(h1:((el l).length:Int)=1)(h2:¬((el (at0 (el l))).length:Int)=1):cN l=false:=by
 have e1:=RP h1;unfold cN;rw[e1];simp only;split
 ·rename_i n h;rw[h]at h2;simp at h2
 ·rfl
noncomputable def B4v:Q1:=⟨_,fun hst=>(.cons (CT hst) .nil)⟩
def GH:List U→Option (Nat×List U)
 | [u_l]=>(J8 rP u_l).bind fun l=>some (0,[.bool (cN l)])
 | _=>none
def A55(l:(Option (List E0))):GH [B6 rP l]=some (0,[.bool (cN l)]):=by
 simp only[GH,G9,D8]
def A80:Tr:=eQ 1 0 1 (x6 0 0 3 (.dt 11 (.get 1 0) [h 0 11,jI 0]<|eQ 1 4 5 (x6 0 0 7 (.dt 11 (.get 1 0) [h 0 11,jI 0]<|x6 0 8 9 (.lt 3 (.get 1 0) [h 8 11,jI 0]<|iX 10 11 (-1)))) J5)) J5
def OY{G}(hst:L9 G):M2 prog G 173 [.s 11] GH [.s 8]:=by
 refine F1 (d:=60) A80 (cxg (B4v.2 hst) (dP hst)) hst ⟨f173,_,func173,rfl⟩ D0 D0 ?_;intro us outs hs;unfold GH at hs;split at hs
 ·skip;rename_i u_l;have hq_l:=A9.1 hs;clear hs;obtain⟨l,hd_l,hs⟩:=hq_l;replace hd_l:=G1 hd_l;subst hd_l;cases hs;unfold A80;refine w0 (.cons 0 _ (.nil)) ?_;repeat (first|refine w4 (fun g=>?_) fun g=>?_|refine U1 ?_|refine eH ?_|(refine w7 [.bool _] ?_;rotate_left)|(refine w8 ?_;first|omega|(simp_all;done)|(simp_all;omega))|refine W8 ?_|refine w2 (.get 1 0) (r:=rN) (e:=J6 rfl A1 A1 rfl) (k':=?_)|refine w1 (.get 1 0) (u:=.int .i64 _) (e:=J6 rfl A1 A1 rfl) (k':=?_))
  all_goals
   first|(rw[A3H l A1 A1];done)|(rw[A3G l A1];done)|(rw[A3F l A1 A1];done)
 ·cases hs
def S8(l:Option (List E0)):Int:=if 16<(el l).length∨cN l=true∨(el l).any fD=true then 150 else 0
def oF(l:Option (List E0))(h:16<((el l).length:Int)):S8 l=150:=A4 (.inl A1)
def oE(l:Option (List E0))(h:cN l=true):S8 l=150:=A4 (.inr (.inl h))
def oD(l:Option (List E0))(h:¬16<((el l).length:Int))(h1:cN l=false)(h2:Y4 fD ((el l).drop (0:Int).toNat) 0=none):S8 l=0:=by
 refine A3 ?_;rcases jZ (p:=fD) (el l) 0 C3 with⟨_,q⟩|⟨j,q,_⟩
 ·rw[h1,q];simp;omega
 ·rw[cO,q]at h2;cases h2
def w9(l:Option (List E0))(h2:Y4 fD ((el l).drop (0:Int).toNat) 0=some j):0≤j∧S8 l=150:=by
 rcases jZ (p:=fD) (el l) 0 C3 with⟨q,_⟩|⟨j,q,q1,q2⟩
 ·rw[cO,q]at h2;cases h2
 ·rw[cO,q]at h2;cases h2;exact⟨q1,A4 (.inr (.inr q2))⟩
noncomputable def B44:Q1:=⟨_,fun hst=>(.cons (CT hst) (.cons (OY hst) .nil))⟩
def GP:List U→Option (Nat×List U)
 | [u_l]=>(J8 rP u_l).bind fun l=>if(el l).length≤1000000000∧∀ p ∈ el l,(el p).length≤1000000000 then some (0,[.int .i64 (S8 l)])else none
 | _=>none
def A6I(l:(Option (List E0)))(hc:(el l).length≤1000000000∧∀ p ∈ el l,(el p).length≤1000000000):GP [B6 rP l]=some (0,[.int .i64 (S8 l)]):=by
 simp only[GP,G9,D8];exact A4 hc
def A9O:Tr:=cU 0 1 16 (K8 150) (.fn GH [h 0 11] 1<|.br 3 (K8 150) (.lp xA [h 0 11,h3 1,jI 0] 0 0 (K8 0) (.lp xA [h 0 11,h3 1,jI 0] 1 1 (L4 4 5 0 (K8 150) (K8 0)) (.no))))
def PK{G}(hst:L9 G):M2 prog G 164 [.s 11] GP [.s 3]:=by
 refine F1 (d:=60) A9O (cxg (B44.2 hst) (dP hst)) hst ⟨f164,_,func164,rfl⟩ D0 D0 ?_;intro us outs hs;unfold GP at hs;split at hs
 ·skip;rename_i u_l;have hq_l:=A9.1 hs;clear hs;obtain⟨l,hd_l,hs⟩:=hq_l;replace hd_l:=G1 hd_l;subst hd_l;split at hs
  ·rename_i hc;cases hs;unfold A9O;refine w0 (.cons 0 _ (.nil)) ?_;refine W8 ?_;refine mO ?_;refine w4 (fun g0=>?_) fun g0=>?_
   ·refine w7 [.int .i64 _] ?_;first|(rw[oF l A1];done)|(rw[oE l (by simpa using g1)];done)|(rw[oD l A1 (by simpa using g1) g2];done)|(rw[(w9 l g2).2];done)|(exfalso;have:=(w9 l g2).1;omega)
   refine w31 GH (e:=A55 _) (k':=?_);first|refine w4 (fun g1=>?_) (fun g1=>?_)|refine w4B (fun g1=>?_) (fun g1=>?_)
   ·refine w7 [.int .i64 _] ?_;first|(rw[oF l A1];done)|(rw[oE l (by simpa using g1)];done)|(rw[oD l A1 (by simpa using g1) g2];done)|(rw[(w9 l g2).2];done)|(exfalso;have:=(w9 l g2).1;omega)
   refine w6 xA (tK _ _ _ ⟨rfl,A1,A1,A1,hc.2⟩) (h0:=fun g2=>?_) (h1:=fun v2 g2=>?_)
   ·show Wk _ _ _;refine w7 [.int .i64 _] ?_;first|(rw[oF l A1];done)|(rw[oE l (by simpa using g1)];done)|(rw[oD l A1 (by simpa using g1) g2];done)|(rw[(w9 l g2).2];done)|(exfalso;have:=(w9 l g2).1;omega)
   show Wk _ _ (.cons _ _ _);refine jK ?_;refine w4 (fun g3=>?_) fun g3=>?_
   ·refine w7 [.int .i64 _] ?_;first|(rw[oF l A1];done)|(rw[oE l (by simpa using g1)];done)|(rw[oD l A1 (by simpa using g1) g2];done)|(rw[(w9 l g2).2];done)|(exfalso;have:=(w9 l g2).1;omega)
   refine w7 [.int .i64 _] ?_;first|(rw[oF l A1];done)|(rw[oE l (by simpa using g1)];done)|(rw[oD l A1 (by simpa using g1) g2];done)|(rw[(w9 l g2).2];done)|(exfalso;have:=(w9 l g2).1;omega)
  ·cases hs
 ·cases hs
def S1(l:Option (List E0))(i d:Int):Int:=if i<0∨((el l).length:Int)≤i∨((el ((el l).getD i.toNat default)).length:Int)=0∨at0 (el ((el l).getD i.toNat default))<0 then d else at0 (el ((el l).getD i.toNat default))
noncomputable def B4E:Q1:=⟨_,fun hst=>(.cons (CT hst) (.cons (OY hst) (.cons (PK hst) .nil)))⟩
def wB:List U→Option (Nat×List U)
 | [u_l,.int .i64 i,.int .i64 d]=>(J8 rP u_l).bind fun l=>if -9223372036854775808≤i then some (0,[.int .i64 (S1 l i d)])else none
 | _=>none
def A4d(l:(Option (List E0)))(i:Int)(d:Int)(hc : -9223372036854775808≤i):wB [B6 rP l,.int .i64 i,.int .i64 d]=some (0,[.int .i64 (S1 l i d)]):=by
 simp only[wB,G9,D8];exact A4 hc
def A6i:Tr:=S6 1 3 0 (.ret [h3 2]) (aD [h 0 11]<|aH [h3 1,h3 4]<|.br 5 (.ret [h3 2]) (x7 1 0 6 (.dt 11 (.get 1 0) [h 0 11,h3 1]<|eQ 0 7 8 (.ret [h3 2]) (x7 1 0 10 (.dt 11 (.get 1 0) [h 0 11,h3 1]<|x6 0 11 12 (.lt 3 (.get 1 0) [h 11 11,jI 0]<|S6 13 14 0 (.ret [h3 2]) (x7 1 0 15 (.dt 11 (.get 1 0) [h 0 11,h3 1]<|x6 0 16 17 (.lt 3 (.get 1 0) [h 16 11,jI 0]<|.ret [h3 18])))))))))
def TN{G}(hst:L9 G):M2 prog G 144 [.s 11,.s 3,.s 3] wB [.s 3]:=by
 refine F1 (d:=60) A6i (cxg (B4E.2 hst) (dP hst)) hst ⟨f144,_,func144,rfl⟩ D0 D0 ?_;intro us outs hs;unfold wB at hs;split at hs
 ·skip;rename_i u_l i d;have hq_l:=A9.1 hs;clear hs;obtain⟨l,hd_l,hs⟩:=hq_l;replace hd_l:=G1 hd_l;subst hd_l;split at hs
  ·rename_i hc;cases hs;unfold A6i;refine w0 (.cons 2 _ (.cons 1 _ (.cons 0 _ (.nil)))) ?_;repeat (first|refine w4 (fun g=>?_) fun g=>?_|(refine w7 [.int .i64 _] ?_;rotate_left)|refine eH ?_|(refine w8 ?_;first|omega|(simp_all;done)|(simp_all;omega))|refine w2 (.get 1 0) (r:=rN) (e:=J6 rfl A1 A1 rfl) (k':=?_)|refine cD ?_|refine W8 ?_|refine w1 (.get 1 0) (u:=.int .i64 _) (e:=J6 rfl A1 A1 rfl) (k':=?_)|refine jK ?_|refine U1 ?_)
   all_goals
    first|(rw[show S1 l i d=d from A4 (.inl A1)];done)|(rw[show S1 l i d=d from A4 (.inr (.inl A1))];done)|(rw[show S1 l i d=d from A4 (.inr (.inr (.inl A1)))];done)|(rw[show S1 l i d=d from A4 (.inr (.inr (.inr (by unfold at0;omega))))];done)|(rw[show S1 l i d=at0 (el ((el l).getD i.toNat default))from A3 (by unfold at0;omega)];done)
  ·cases hs
 ·cases hs
noncomputable def B43:Q1:=⟨_,fun hst=>(.cons (CT hst) (.cons (OY hst) (.cons (PK hst) (.cons (TN hst) .nil))))⟩
def A9M:List U→Option (Nat×List U)
 | [u_l,u_x]=>(J8 rP u_l).bind fun l=>(J8 rN u_x).bind fun x=>if 1≤(el l).length∧(el l).length≤100000000 then some (0,[B6 rP (some (el (L8 l 0 (((el l).length:Int)-1).toNat)++[x]))])else none
 | _=>none
def A9L:Tr:=aD [h 0 11]<|aS [h3 2,jI 1]<|.dt 11 (.subs 1) [h 0 11,jI 0,h3 3]<|.dt 11 (.snoc 1) [h 4 11,h 1 11]<|.ret [h 5 11]
def A9N{G}(hst:L9 G):M2 prog G 166 [.s 11,.a [11]] A9M [.s 11]:=by
 refine F1 (d:=60) A9L (cxg (B43.2 hst) (dP hst)) hst ⟨f166,_,func166,rfl⟩ D0 D0 ?_;intro us outs hs;unfold A9M at hs;split at hs
 ·skip;rename_i u_l u_x;have hq_l:=A9.1 hs;clear hs;obtain⟨l,hd_l,hs⟩:=hq_l;replace hd_l:=G1 hd_l;subst hd_l;have hq_x:=A9.1 hs;clear hs;obtain⟨x,hd_x,hs⟩:=hq_x;replace hd_x:=G1 hd_x;subst hd_x;split at hs
  ·rename_i hc;cases hs;unfold A9L;refine w0 (.cons 1 _ (.cons 0 _ (.nil))) ?_;repeat (first|refine HN ?_|refine wF ?_|refine W8 ?_|refine w2 (.subs 1) (r:=rP) (e:=V6 rfl A1 A1 A1) (k':=?_)|refine w2 (.snoc 1) (r:=rP) (e:=U5 rfl rfl C3 (by rw[K5];simp;omega)) (k':=?_)|(refine w7 [B6 rP _] ?_;rotate_left))
   all_goals
    rfl
  ·cases hs
 ·cases hs
noncomputable def B45:Q1:=⟨_,fun hst=>(.cons (CT hst) (.cons (OY hst) (.cons (PK hst) (.cons (TN hst) (.cons (A9N hst) .nil)))))⟩
def A9Q:List U→Option (Nat×List U)
 | [u_l,.int .i64 x]=>(J8 rN u_l).bind fun l=>if 1≤(el l).length∧(el l).length≤100000000 then some (0,[B6 rN (some (el (L8 l 0 (((el l).length:Int)-1).toNat)++[x]))])else none
 | _=>none
def A9P:Tr:=aD [h 0 11]<|aS [h3 2,jI 1]<|.dt 11 (.subs 1) [h 0 11,jI 0,h3 3]<|.dt 11 (.snoc 1) [h 4 11,h3 1]<|.ret [h 5 11]
def B30{G}(hst:L9 G):M2 prog G 167 [.s 11,.s 3] A9Q [.s 11]:=by
 refine F1 (d:=60) A9P (cxg (B45.2 hst) (dP hst)) hst ⟨f167,_,func167,rfl⟩ D0 D0 ?_;intro us outs hs;unfold A9Q at hs;split at hs
 ·skip;rename_i u_l x;have hq_l:=A9.1 hs;clear hs;obtain⟨l,hd_l,hs⟩:=hq_l;replace hd_l:=G1 hd_l;subst hd_l;split at hs
  ·rename_i hc;cases hs;unfold A9P;refine w0 (.cons 1 _ (.cons 0 _ (.nil))) ?_;repeat (first|refine HN ?_|refine wF ?_|refine W8 ?_|refine w2 (.subs 1) (r:=rN) (e:=V6 rfl A1 A1 A1) (k':=?_)|refine w2 (.snoc 1) (r:=rN) (e:=U5 rfl rfl C3 (by rw[K5];simp;omega)) (k':=?_)|(refine w7 [B6 rN _] ?_;rotate_left))
   all_goals
    rfl
  ·cases hs
 ·cases hs
abbrev Rws:=Option (List E0)
abbrev g7(l:Rws):E0:=(el l).getD (((el l).length:Int)-1).toNat default
abbrev wZ(p:E0):Int:=(el p).getD (((el p).length:Int)-1).toNat default
abbrev uC{α:Type}(l:Option (List α)):List α:=el (L8 l 0 (((el l).length:Int)-1).toNat)
abbrev ZK{α:Type}(l:Option (List α)):List α:=el (L8 l 0 ((el l).length:Int).toNat)
def vT(n c:Int):Int:=min (max 0 n*10+(c-48)) 9999
def R6(l:Rws)(c:Int):Rws×Int :=
 if S8 l≠0 then(none,S8 l)else
 if((el l).length:Int)=0 then
  if c=59 then(some [some [-1],some [-1]],0)
  else if c=58 then(some [some [-1,-1]],0)
  else if 48≤c∧c≤57 then(some [some [vT (-1) c]],0)
  else(none,6)
 else if c=59∧((el l).length:Int)<16 then(some (ZK l++[some [-1]]),0)
 else if c=58∧((el (g7 l)).length:Int)<6 then(some (uC l++[some (ZK (g7 l)++[-1])]),0)
 else if c=59∨c=58 then(none,3)
 else if 48≤c∧c≤57 then(some (uC l++[some (uC (g7 l)++[vT (wZ (g7 l)) c])]),0)
 else(none,6)
def CI(l:Rws):S8 l=150∨S8 l=0∧(el l).length≤16∧∀ p ∈ el l,1≤(el p).length∧(el p).length≤6∧∀ n ∈ el p,-1≤n∧n≤9999:=by
 unfold S8;by_cases h:16<(el l).length∨cN l=true∨(el l).any fD=true
 ·exact .inl (A4 h)
 ·refine .inr ⟨A3 h,A1,fun p hp=>?_⟩;have hb:fD p=false:=by
   have h3:(el l).any fD=false:=by
    cases h4:(el l).any fD with
    | true=>exact absurd (.inr (.inr h4)) h
    | false=>rfl
   simpa using X8.1 h3 p hp
  unfold fD at hb;rw[M4,M4]at hb;obtain⟨h1,h2,h3⟩:=hb;have h1:=of_decide_eq_false h1;have h2:=of_decide_eq_false h2;refine⟨A1,A1,fun n hn=>?_⟩
  have:=X8.1 h3 n hn;have:¬(n < -1∨9999<n):=fun hh=>this (A36 hh)
  omega
def A2A(p:E0)(h1:1≤(el p).length)(h:∀ n ∈ el p,-1≤n∧n≤9999) : -1≤wZ p∧wZ p≤9999:=fE h A1 A1
def kP{α:Type}(x:Option (List α))(i j:Nat):(el (L8 x i j)).length≤(el x).length:=by rw[K5,D5,C9];omega
def A3r(l:Rws)(h:∀ p ∈ el l,(el p).length≤1000000000):S8 l=150∨S8 l=0∧(el l).length≤16∧(((el l).length:Int)=0∨1≤(el (g7 l)).length∧(el (g7 l)).length≤6 ∧ -1≤wZ (g7 l)∧wZ (g7 l)≤9999):=by
 rcases CI l with h|⟨h1,h2,h3⟩
 ·exact .inl h
 ·refine .inr ⟨h1,h2,?_⟩;by_cases h0:((el l).length:Int)=0
  ·exact .inl h0
  ·obtain⟨a,b,c⟩:=fE (i:=((el l).length:Int)-1) h3 A1 A1;have d:=A2A _ a c;exact .inr ⟨a,b,d.1,d.2⟩
def A9u(l:Rws)(c:Int)(h:S8 l≠0):R6 l c=(none,S8 l):=A4 h
def A0b(l:Rws)(c:Int)(h:S8 l=0)(h0:((el l).length:Int)=0)(h1:c=59):R6 l c=(some [some [-1],some [-1]],0):=by unfold R6;rw[A3 A1,A4 h0,A4 h1]
def A9t(l:Rws)(c:Int)(h:S8 l=0)(h0:((el l).length:Int)=0)(h1:c=58):R6 l c=(some [some [-1,-1]],0):=by unfold R6;rw[A3 A1,A4 h0,A3 A1,A4 h1]
def A0a(l:Rws)(c:Int)(h:S8 l=0)(h0:((el l).length:Int)=0)(h1:48≤c∧c≤57):R6 l c=(some [some [vT (-1) c]],0):=by unfold R6;rw[A3 A1,A4 h0,A3 A1,A3 A1,A4 h1]
def A9s(l:Rws)(c:Int)(h:S8 l=0)(h1:c<48∨59<c):R6 l c=(none,6):=by
 unfold R6;rw[A3 A1];by_cases h0:((el l).length:Int)=0
 ·rw[A4 h0,A3 A1,A3 A1,A3 A1]
 ·rw[A3 h0,A3 A1,A3 A1,A3 A1,A3 A1]
def A0Z(l:Rws)(c:Int)(h:S8 l=0)(h0:¬((el l).length:Int)=0)(h1:c=59)(h2:((el l).length:Int)<16):R6 l c=(some (ZK l++[some [-1]]),0):=by unfold R6;rw[A3 A1,A3 h0,A4 ⟨h1,h2⟩]
def A9r(l:Rws)(c:Int)(h:S8 l=0)(h0:¬((el l).length:Int)=0)(h1:c=58)(h2:((el ((el l).getD (((el l).length:Int)-1).toNat default)).length:Int)<6):R6 l c=(some (uC l++[some (ZK (g7 l)++[-1])]),0):=by unfold R6;rw[A3 A1,A3 h0,A3 A1,A4 ⟨h1,h2⟩]
def A9q(l:Rws)(c:Int)(h:S8 l=0)(h0:¬((el l).length:Int)=0)(h1:c=59∧¬((el l).length:Int)<16∨c=58∧¬((el ((el l).getD (((el l).length:Int)-1).toNat default)).length:Int)<6):R6 l c=(none,3):=by unfold R6;unfold g7;rw[A3 A1,A3 h0,A3 A1,A3 A1,A4 A1]
def A0Y(l:Rws)(c:Int)(h:S8 l=0)(h0:¬((el l).length:Int)=0)(h1:48≤c∧c≤57):R6 l c=(some (uC l++[some (uC (g7 l)++[vT (wZ (g7 l)) c])]),0):=by unfold R6;rw[A3 A1,A3 h0,A3 A1,A3 A1,A3 A1,A4 h1]
noncomputable def B4O:Q1:=⟨_,fun hst=>(.cons (PK hst) .nil)⟩
def EE:List U→Option (Nat×List U)
 | [u_l,.int .u8 c]=>(J8 rP u_l).bind fun l=>if(el l).length≤1000000000∧∀ p ∈ el l,(el p).length≤1000000000 then some (0,[B6 rP ((R6 l c).1),.int .i64 ((R6 l c).2)])else none
 | _=>none
def A4o(l:(Option (List E0)))(c:Int)(hc:(el l).length≤1000000000∧∀ p ∈ el l,(el p).length≤1000000000):EE [B6 rP l,.int .u8 c]=some (0,[B6 rP ((R6 l c).1),.int .i64 ((R6 l c).2)]):=by
 simp only[EE,G9,D8];exact A4 hc
def A0W(n:Nat):Tr:=aE [h 1 4,.int .u8 (58)]<|.br n (aD [h 8 11]<|S6 (n+1) (n+2) 6 (.dt 11 (.subs 1) [h 8 11,jI 0,h3 (n+1)]<|.dt 11 (.snoc 1) [h (n+3) 11,jI (-1)]<|aS [h3 4,jI 1]<|.dt 11 (.subs 1) [h 0 11,jI 0,h3 (n+5)]<|.dt 11 (.snoc 1) [h (n+6) 11,h (n+4) 11]<|o9 (n+7)) (aE [h 1 4,.int .u8 (59)]<|.br (n+3) (l5 3 (n+4)) (aE [h 1 4,.int .u8 (58)]<|.br (n+4) (l5 3 (n+5)) (aH [h 1 4,.int .u8 (48)]<|.br (n+5) (aQ [h 1 4,.int .u8 (57)]<|.br (n+6) (aS [h3 (n+1),jI 1]<|x7 (n+7) 8 (n+8) (.lt 3 (.get 1 0) [h 8 11,h3 (n+7)]<|.lt 3 (.max) [jI 0,h3 (n+9)]<|.lt 3 (.bin .mul) [h3 (n+10),jI 10]<|.lt 4 (.bin .sub) [h 1 4,.int .u8 (48)]<|.lt 3 (.conv .i64) [h (n+12) 4]<|aA [h3 (n+11),h3 (n+13)]<|.lt 3 (.min) [h3 (n+14),jI 9999]<|aS [h3 (n+1),jI 1]<|.dt 11 (.subs 1) [h 8 11,jI 0,h3 (n+16)]<|.dt 11 (.snoc 1) [h (n+17) 11,h3 (n+15)]<|aS [h3 4,jI 1]<|.dt 11 (.subs 1) [h 0 11,jI 0,h3 (n+19)]<|.dt 11 (.snoc 1) [h (n+20) 11,h (n+18) 11]<|o9 (n+21))) (l5 6 (n+7))) (l5 6 (n+6)))))) (aE [h 1 4,.int .u8 (59)]<|.br (n+1) (l5 3 (n+2)) (aE [h 1 4,.int .u8 (58)]<|.br (n+2) (l5 3 (n+3)) (aH [h 1 4,.int .u8 (48)]<|.br (n+3) (aQ [h 1 4,.int .u8 (57)]<|.br (n+4) (aD [h 8 11]<|aS [h3 (n+5),jI 1]<|x7 (n+6) 8 (n+7) (.lt 3 (.get 1 0) [h 8 11,h3 (n+6)]<|.lt 3 (.max) [jI 0,h3 (n+8)]<|.lt 3 (.bin .mul) [h3 (n+9),jI 10]<|.lt 4 (.bin .sub) [h 1 4,.int .u8 (48)]<|.lt 3 (.conv .i64) [h (n+11) 4]<|aA [h3 (n+10),h3 (n+12)]<|.lt 3 (.min) [h3 (n+13),jI 9999]<|aS [h3 (n+5),jI 1]<|.dt 11 (.subs 1) [h 8 11,jI 0,h3 (n+15)]<|.dt 11 (.snoc 1) [h (n+16) 11,h3 (n+14)]<|aS [h3 4,jI 1]<|.dt 11 (.subs 1) [h 0 11,jI 0,h3 (n+18)]<|.dt 11 (.snoc 1) [h (n+19) 11,h (n+17) 11]<|o9 (n+20))) (l5 6 (n+5))) (l5 6 (n+4)))))
def A69:Tr:=.fn GP [h 0 11] 1<|cC 2 3 0 (.dt 11 (.nilw 1) []<|.ret [h 4 11,h3 2]) (eQ 0 0 4 (aE [h 1 4,.int .u8 (59)]<|.br 6 (.dt 11 (.mk 1) [jI (-1)]<|.dt 11 (.mk 1) [jI (-1)]<|.dt 11 (.mk 1) [h 7 11,h 8 11]<|o9 9) (aE [h 1 4,.int .u8 (58)]<|.br 7 (.dt 11 (.mk 1) [jI (-1),jI (-1)]<|.dt 11 (.mk 1) [h 8 11]<|o9 9) (aE [h 1 4,.int .u8 (59)]<|.br 8 (l5 3 9) (aE [h 1 4,.int .u8 (58)]<|.br 9 (l5 3 10) (aH [h 1 4,.int .u8 (48)]<|.br 10 (aQ [h 1 4,.int .u8 (57)]<|.br 11 (.lt 4 (.bin .sub) [h 1 4,.int .u8 (48)]<|.lt 3 (.conv .i64) [h 12 4]<|aA [jI 0,h3 13]<|.lt 3 (.min) [h3 14,jI 9999]<|.dt 11 (.mk 1) [h3 15]<|.dt 11 (.mk 1) [h 16 11]<|o9 17) (l5 6 12)) (l5 6 11)))))) (aS [h3 4,jI 1]<|x7 6 0 7 (.dt 11 (.get 1 0) [h 0 11,h3 6]<|aE [h 1 4,.int .u8 (59)]<|.br 9 (S6 4 10 16 (.dt 11 (.subs 1) [h 0 11,jI 0,h3 4]<|.dt 11 (.mk 1) [jI (-1)]<|.dt 11 (.snoc 1) [h 11 11,h 12 11]<|o9 13) (A0W 11)) (A0W 10))))
def A6_{G}(hst:L9 G):M2 prog G 155 [.s 11,.s 4] EE [.s 11,.s 3]:=by
 refine F1 (d:=60) A69 (cxg (B4O.2 hst) (dP hst)) hst ⟨f155,_,func155,rfl⟩ D0 D0 ?_;intro us outs hs;unfold EE at hs;split at hs
 ·skip;rename_i u_l c;have hq_l:=A9.1 hs;clear hs;obtain⟨l,hd_l,hs⟩:=hq_l;replace hd_l:=G1 hd_l;subst hd_l;split at hs
  ·rename_i hc;cases hs;have hb:=A3r l hc.2;unfold g7 wZ at hb;unfold A69;refine w0 (.cons 1 _ (.cons 0 _ (.nil))) ?_;repeat (first|refine HN ?_|refine wF ?_|refine w4 (fun g=>?_) fun g=>?_|(refine w7 [B6 rP _,.int .i64 _] ?_;rotate_left)|refine w2 (.nilw 1) (r:=rP) (e:=J2 rfl) (k':=?_)|refine U1 ?_|refine fV ?_|refine cE ?_|refine y7 ?_|refine V4 ?_|refine B1g ?_|refine A67 ?_|refine w2 (.subs 1) (r:=rP) (e:=V6 rfl A1 A1 A1) (k':=?_)|refine w2 (.snoc 1) (r:=rP) (e:=U5 rfl rfl C3 (by first|omega|exact gX (kP _ _ _) A1|exact C4 (Nat.succ_le_succ (kP _ _ _)) A1)) (k':=?_)|refine w2 (.subs 1) (r:=rN) (e:=V6 rfl A1 A1 A1) (k':=?_)|refine w2 (.snoc 1) (r:=rN) (e:=U5 rfl rfl C3 (by first|omega|exact gX (kP _ _ _) A1|exact C4 (Nat.succ_le_succ (kP _ _ _)) A1)) (k':=?_)|refine W8 ?_|refine jK ?_|refine mN ?_|refine A9n ?_|refine eH ?_|(refine w8 ?_;first|omega|(simp_all;done)|(simp_all;omega))|refine w2 (.mk 1) (r:=rN) (e:=S7 [_] rfl C3 rfl) (k':=?_)|refine w1 (.get 1 0) (u:=.int .i64 _) (e:=J6 rfl A1 A1 rfl) (k':=?_)|refine B5M ?_|refine cD ?_|refine w2 (.mk 1) (r:=rP) (e:=S7 [_] rfl C3 rfl) (k':=?_)|refine w31 GP (e:=A6I _ A1) (k':=?_)|refine mL ?_|refine w2 (.mk 1) (r:=rP) (e:=S7 [_,_] rfl C3 rfl) (k':=?_)|refine w2 (.mk 1) (r:=rN) (e:=S7 [_,_] rfl C3 rfl) (k':=?_)|refine w2 (.get 1 0) (r:=rN) (e:=J6 rfl A1 A1 rfl) (k':=?_))
   all_goals
    first|(rw[A9u l c A1];done)|(rw[A0b l c A1 A1 A1];done)|(rw[A9t l c A1 A1 A1];done)|(rw[A0a l c A1 A1 A1];rfl)|(rw[A9s l c A1 A1];done)|(rw[A0Z l c A1 A1 A1 A1];rfl)|(rw[A9r l c A1 A1 A1 A1];rfl)|(rw[A9q l c A1 A1 A1];done)|(rw[A0Y l c A1 A1 A1];rfl)
  ·cases hs
 ·cases hs
def Vl(l:Rws):Prop:=(el l).length≤100∧∀ p ∈ el l,(el p).length≤100
instance(l:Rws):Decidable (Vl l):=by unfold Vl;infer_instance
def rS:Vl none:=⟨C3,fun p hp=>by cases hp⟩
def B5G{l:Rws}(h:Vl l):(el l).length≤1000000000∧∀ p ∈ el l,(el p).length≤1000000000:=⟨C4 h.1 C3,fun p hp=>C4 (h.2 p hp) C3⟩
def kY:Rws→D1→Rws
 | l,[]=>l
 | l,b::r=>kY (R6 l b.toNat).1 r
def mF:Rws→D1→Option Int
 | _,[]=>none
 | l,b::r=>if(R6 l b.toNat).2≠0 then some (R6 l b.toNat).2 else mF (R6 l b.toNat).1 r
def WL(s:D1)(h0:0≤i)(h1:i<(s.length:Int)):s.drop i.toNat=s.getD i.toNat 0::s.drop (i+1).toNat:=R3 s h0 h1
def A4a(l:Rws)(c:Int):Vl (R6 l c).1:=by
 unfold R6;rcases CI l with h|⟨h1,h2,h3⟩
 ·rw[A4 A1];exact rS
 rw[A3 A1];have hp:∀ p ∈ el l,(el p).length≤6:=fun p hp=>(h3 p hp).2.1
 have hsub:∀ i j,∀ p ∈ el (L8 l i j),(el p).length≤6:=fun i j p hq=>by
  rw[K5]at hq;exact hp p (M3 (N3 hq))
 have hlast:(el (g7 l)).length≤6:=by
  by_cases h0:((el l).length:Int)=0
  ·unfold g7;have:el l=[]:=D3.1 A1;rw[this];decide
  ·exact fE (i:=((el l).length:Int)-1) hp A1 A1
 have happ:∀ i j (q:E0),(el q).length≤7→Vl (some (el (L8 l i j)++[q])):=fun i j q hq=>by
  refine⟨?_,fun p hp=>?_⟩
  ·have:=kP l i j;simp only[E8,A7,B7];omega
  ·rcases B5.1 hp with h|h
   ·have:=hsub i j p h;omega
   ·rw[H8.1 h];omega
 split
 ·split
  ·exact⟨C3,C3⟩
  ·split
   ·exact⟨C3,C3⟩
   ·split
    ·exact⟨A2 rfl,fun p hp=>by rw[H8.1 hp];exact A2 rfl⟩
    ·exact rS
 ·split
  ·exact happ _ _ _ C3
  ·split
   ·refine happ _ _ _ ?_;have:(ZK (g7 l)).length≤_:=kP (g7 l) 0 ((el (g7 l)).length:Int).toNat;simp only[E8,A7,B7];omega
   ·split
    ·exact rS
    ·split
     ·refine happ _ _ _ ?_;have:(uC (g7 l)).length≤_:=kP (g7 l) 0 (((el (g7 l)).length:Int)-1).toNat;simp only[E8,A7,B7];omega
     ·exact rS
def tA{l:Rws}{b:UInt8}(h:¬(R6 l b.toNat).2≠0):mF l (b::r)=mF (R6 l b.toNat).1 r:=A3 h
def IE{l:Rws}{b:UInt8}(h:(R6 l b.toNat).2≠0):mF l (b::r)=some (R6 l b.toNat).2:=A4 h
def AS{l:Rws}{b:UInt8} :kY l (b::r)=kY (R6 l b.toNat).1 r:=rfl
def B1A(s:D1)(h:(s.length:Int)≤i):s.drop i.toNat=[]:=O0 A1
noncomputable def B4c:Q1:=⟨_,fun hst=>(.cons (A6_ hst) .nil)⟩
def wT:List U→Option (Nat×List U)
 | [.str s,u_l,.int .i64 n,.int .i64 i]=>(J8 rP u_l).bind fun l=>if n=(s.length:Int)∧0≤i∧i≤n∧n≤1000000000∧Vl l then fT (mF l (s.drop i.toNat)) [B6 rP (kY l (s.drop i.toNat))] (fun e=>[.int .i64 e])else none
 | _=>none
def sU(s:D1)(l:(Option (List E0)))(n:Int)(i:Int)(hc:n=(s.length:Int)∧0≤i∧i≤n∧n≤1000000000∧Vl l):wT [.str s,B6 rP l,.int .i64 n,.int .i64 i]=fT (mF l (s.drop i.toNat)) [B6 rP (kY l (s.drop i.toNat))] (fun e=>[.int .i64 e]):=by
 simp only[wT,G9,D8];exact A4 hc
def A7r:Q8:=⟨[(0,h 0 9),(2,dat 6 1 11),(9,h 2 3),(10,h 3 3)],[(6,.frz)],4,[⟨.exit 0,[(2,dat 7 0 11)],[(7,.frz)],1⟩,⟨.ret,[(2,.slice none 0 0),(3,h 0 3)],[],1⟩]⟩
noncomputable def A1g:Code:=(f143.body).getD .skip
noncomputable def A7n:Code:=match I0 [true,true,false,true,false] A1g with|some (.loop x)=>x|_=>.skip
def A7q:f143.body=some A1g:=rfl
def A7p:I0 [true,true,false,true,false] A1g=some (.loop A7n):=D0
def A7o:Tr:=p7 3 2 4 (.lt 4 (.idx) [h 0 9,h3 3]<|.fn EE [h 1 11,h 5 4] 2<|cC 7 8 0 (.ret [jI 1,h3 7]) (aA [h3 3,jI 1]<|.ret [jI (-1),h 0 9,h 6 11,h3 2,h3 9])) (.ret [jI 0,h 1 11])
def A1f:List U→Nat
 | [.str s,u_l,.int .i64 n,.int .i64 i]=>(match J8 rP u_l with|some l=>(n-i).toNat|none=>0)
 | _=>0
def A1e(s:D1)(l:(Option (List E0)))(n:Int)(i:Int):A1f [.str s,B6 rP l,.int .i64 n,.int .i64 i]=(n-i).toNat:=by
 simp only[A1f,G9]
def B2L{G}(hst:L9 G):∀ (E:Nat→U) (base:Nat),@X1 ⟨E,G⟩ prog base gl f143.ntmps A7n (P3 prog gl n0 8 A7r wT):=by
 refine l6 (dep:=60) (f:=143) (n0:=n0) (nB:=8) (H0:=H0) A1f A7o (cxg (B4c.2 hst) (dP hst)) hst func143 A7q A7p D0 D0 D0 ?_;intro us d outs hs;have hs0:=hs;unfold wT at hs;split at hs
 ·skip;rename_i s u_l n i;have hq_l:=A9.1 hs;clear hs;obtain⟨l,hd_l,hs⟩:=hq_l;replace hd_l:=G1 hd_l;subst hd_l;split at hs
  ·rename_i hc;clear hs hs0;refine⟨rfl,?_⟩;unfold A7o;refine w0 (.cons 3 _ (.cons 2 _ (.cons 1 _ (.cons 0 _ (.nil))))) ?_;refine cD ?_;refine w5 (fun g0=>?_) fun g0=>?_
   ·refine w7 [.int .i64 _,B6 rP _] ?_;refine L7 (d:=0) ?_;rw[sU s l n i hc,B1A s A1];rfl
   refine w1 (.idx) (e:=SO _ _ _ A1 A1) (k':=?_);refine w32 EE (e:=A4o _ _ (B5G hc.2.2.2.2)) (k':=?_);refine mL ?_;refine w4 (fun g1=>?_) fun g1=>?_
   ·refine w7 [.int .i64 _,.int .i64 _] ?_;refine L7 (d:=1) ?_;rw[sU s l n i hc,WL s hc.2.1 A1,IE (by first|exact g1|simpa using g1)];rfl
   first|refine y7 ?_|refine V4 ?_
   refine w7 [.int .i64 _,.str _,B6 rP _,.int .i64 _,.int .i64 _] ?_;refine P4 ?_ ?_
   ·rw[sU s _ n (i+1) ⟨hc.1,A1,A1,hc.2.2.2.1,A4a _ _⟩,sU s l n i hc,WL s hc.2.1 A1,tA (by first|exact g1|simpa using g1),AS]
   ·rw[A1e,A1e];omega
  ·cases hs
 ·cases hs
noncomputable def B5A:List LpE:=(143,([true,true,false,true,false],P3 prog gl n0 8 A7r wT))::A9a
def A4N{G}(hst:L9 G):r7 prog G gl B5A:=.cons func143 A7q A7p (B2L hst) (dP hst)
def S2(s:D1):Rws×Int:=if 4096<(s.length:Int)then(none,3)else match mF none s with
 | none=>(kY none s,0)
 | some e=>(none,e)
def A82(s:D1):s.drop (0:Int).toNat=s:=rfl
def A5C(s:D1)(h:4096<(s.length:Int)):S2 s=(none,3):=A4 h
def A5B(s:D1)(h:¬4096<(s.length:Int))(g:mF none (s.drop (0:Int).toNat)=none):S2 s=(kY none (s.drop (0:Int).toNat),0):=by rw[A82]at g ⊢;unfold S2;rw[A3 h,g]
def A5A(s:D1)(h:¬4096<(s.length:Int))(g:mF none (s.drop (0:Int).toNat)=some e):S2 s=(none,e):=by rw[A82]at g;unfold S2;rw[A3 h,g]
noncomputable def B4d:Q1:=⟨_,fun hst=>(.cons (CT hst) (.cons (OY hst) (.cons (PK hst) (.cons (TN hst) (.cons (A9N hst) (.cons (B30 hst) (.cons (A6_ hst) .nil)))))))⟩
def MU:List U→Option (Nat×List U)
 | [.str s]=>some (0,[B6 rP ((S2 s).1),.int .i64 ((S2 s).2)])
 | _=>none
def A4_(s:D1):MU [.str s]=some (0,[B6 rP ((S2 s).1),.int .i64 ((S2 s).2)]):=rfl
def A7s:Tr:=aD [h 0 9]<|aV 1 2 4096 (l5 3 3) (aD [h 0 9]<|.dt 11 (.nilw 1) []<|.lp wT [h 0 9,h 4 11,h3 3,jI 0] 0 1 (o9 5) (.lp wT [h 0 9,h 4 11,h3 3,jI 0] 1 1 (.dt 11 (.nilw 1) []<|.ret [h 6 11,h3 5]) (.no)))
def B2N{G}(hst:L9 G):M2 prog G 143 [.s 9] MU [.s 11,.s 3]:=by
 refine F1 (d:=60) A7s (cxg (B4d.2 hst) (A4N hst)) hst ⟨f143,_,func143,rfl⟩ D0 D0 ?_;intro us outs hs;unfold MU at hs;split at hs
 ·skip;rename_i s;cases hs;unfold A7s;refine w0 (.cons 0 _ (.nil)) ?_;repeat (first|refine w2 (.nilw 1) (r:=rP) (e:=J2 rfl) (k':=?_)|(refine w7 [B6 rP _,.int .i64 _] ?_;rotate_left)|refine LB ?_|refine mO ?_|refine w4 (fun g=>?_) fun g=>?_|(refine w6 wT (sU _ none _ _ ⟨rfl,A1,A1,A1,rS⟩) (h0:=fun g=>?_) (h1:=fun v g=>?_);show Wk _ _ (.cons _ _ _);rotate_left;show Wk _ _ (.cons _ _ _);rotate_right))
  all_goals
   first|(rw[A5C s A1];done)|(rw[A5B s A1 ‹_›];done)|(rw[A5A s A1 ‹_›];done)
 ·cases hs
def Bd(l:Rws):Prop:=∀ p ∈ el l,∀ n ∈ el p,-1≤n∧n≤9999
def lI:Bd none:=fun p hp=>by cases hp
def A3U(n c:Int)(h0:48≤c) : -1≤vT n c∧vT n c≤9999:=by unfold vT;omega
def TD{l:Rws}{q:List Int}{i j:Nat}(h:Bd l)(hq:∀ n ∈ q,-1≤n∧n≤9999):Bd (some (el (L8 l i j)++[some q])):=fun p hp=>by
 rcases B5.1 hp with hp|hp
 ·rw[K5]at hp;exact h p (M3 (N3 hp))
 ·rw[H8.1 hp];exact hq
def XB{l:Rws}(h:Bd l){i j:Nat}:∀ n ∈ el (L8 (g7 l) i j),-1≤n∧n≤9999:=fun n hn=>by
 rw[K5]at hn;have hn:=M3 (N3 hn);by_cases h0:((el l).length:Int)=0
 ·have e:el l=[]:=D3.1 A1;unfold g7 at hn;rw[e]at hn;cases hn
 ·exact h _ (nT (i:=((el l).length:Int)-1) A1 A1) n hn
def A6Q(l:Rws)(c:Int):Bd (R6 l c).1:=by
 unfold R6;rcases CI l with h|⟨h1,h2,h3⟩
 ·rw[A4 A1];exact lI
 rw[A3 A1];have hb:Bd l:=fun p hp=>(h3 p hp).2.2
 have m1:∀ n ∈ ([-1]:List Int),-1≤n∧n≤9999:=C3;split
 ·split
  ·exact fun p hp n hn=>by simp[el]at hp;rcases hp with rfl|rfl<;>exact m1 n hn
  ·split
   ·exact fun p hp n hn=>by simp[el]at hp;subst hp;simp[el]at hn;omega
   ·split
    ·rename_i hd;exact fun p hp n hn=>by simp[el]at hp;subst hp;simp[el]at hn;subst hn;exact A3U _ _ hd.1
    ·exact lI
 ·split
  ·exact TD hb m1
  ·split
   ·refine TD hb fun n hn=>?_
    rcases B5.1 hn with hn|hn
    ·exact XB hb n hn
    ·exact m1 n hn
   ·split
    ·exact lI
    ·split
     ·rename_i hd;refine TD hb fun n hn=>?_
      rcases B5.1 hn with hn|hn
      ·exact XB hb n hn
      ·rw[H8.1 hn];exact A3U _ _ hd.1
     ·exact lI
def XA:∀ (s:D1) (l:Rws),Bd l→Bd (kY l s)
 | [],l,h=>h
 | b::r,l,_=>XA r _ (A6Q l _)
def A35(s:D1):Bd (S2 s).1:=by
 unfold S2;split
 ·exact lI
 ·split
  ·exact XA s none lI
  ·exact lI
def B1W(s:D1)(i:Int):0≤S1 (S2 s).1 i 0∧S1 (S2 s).1 i 0≤9999:=by
 unfold S1;split
 ·omega
 ·rename_i h;have h1:0≤i∧i<((el (S2 s).1).length:Int):=A1
  have:=A35 s _ (nT h1.1 h1.2) _ (nT (i:=0) A1 A1);unfold at0 at *;omega
def dgT(s:D1):D1:=((Lib.trimPrefix s [27,91,60]).drop (0:Int).toNat).take ((((Lib.trimPrefix s [27,91,60]).length:Int)-1).toNat-(0:Int).toNat)
def mdG(s:D1):Bool:=!Lib.hasPrefix s [27,91,77]
def mdP(s:D1):Bool:=if mdG s=true then Lib.hasPrefix s [27,91,60] && decide ((S2 (dgT s)).2=0)else true
def byA(s:D1)(i:Int):Int:=((s.getD i.toNat 0).toNat:Int)
def mdN(s:D1):Int:=if mdG s=true then S1 (S2 (dgT s)).1 0 0 else byA s 3-32
def mdC(s:D1):Int:=if mdG s=true then S1 (S2 (dgT s)).1 1 0-1 else byA s 4-33
def mdR(s:D1):Int:=if mdG s=true then S1 (S2 (dgT s)).1 2 0-1 else byA s 5-33
def mdL(s:D1):Int:=byA s ((s.length:Int)-1)
def mdW(g:Bool)(n l:Int):Int:=if n / 64%2*64≠0 then 3 else if n / 32%2*32≠0 then 2 else if(g=true∧l=109)∨(g=false∧n%4=3)then 1 else 0
def mdV(s:D1):Int:=mdW (mdG s) (mdN s) (mdL s)
def mdB(s:D1):Bool:=mdP s && (decide (O5 2 0 (mdN s / 4%8) (mdV s) (mdN s%4) (mdR s) (mdC s) []) && decide (moS (mdG s) (mdN s / 4%8) (mdV s) (mdN s%4) (mdR s) (mdC s)=s))
def A70(h:mdP s=false):mdB s=false:=by unfold mdB;rw[h];rfl
def A7z{n w r:Int}(e1:mdN s=n)(e2:mdV s=w)(e3:mdR s=r)(e4:mdC s=c)(h:¬O5 2 0 (n / 4%8) w (n%4) r c []):mdB s=false:=by
 unfold mdB;rw[e1,e2,e3,e4,F6 h,Z6,V9]
def A7y{n w r:Int}(e0:mdG s=g)(e1:mdN s=n)(e2:mdV s=w)(e3:mdR s=r)(e4:mdC s=c)(h:moS g (n / 4%8) w (n%4) r c≠s):mdB s=false:=by
 unfold mdB;rw[e0,e1,e2,e3,e4,F6 h,V9,V9]
def A5Q{n w r:Int}(e0:mdG s=g)(e1:mdN s=n)(e2:mdV s=w)(e3:mdR s=r)(e4:mdC s=c)(hp:mdP s=true)(h2:O5 2 0 (n / 4%8) w (n%4) r c [])(h:¬moS g (n / 4%8) w (n%4) r c≠s):mdB s=true:=by
 unfold mdB;rw[hp,e0,e1,e2,e3,e4,F4 h2,F4 (F8.1 h)];rfl
def A8D{p:Prop}[Decidable p](h:(if p then(0:Int)else 430)≠0):¬p:=fun k=>h (A4 k)
def A2J{p:Prop}[Decidable p](h:¬(if p then(0:Int)else 430)≠0):p:=by
 by_cases k:p
 ·exact k
 ·rw[A3 k]at h;exact absurd C3 h
def B1z(h:mdG s=true):mdN s=S1 (S2 (dgT s)).1 0 0∧mdC s=S1 (S2 (dgT s)).1 1 0-1∧mdR s=S1 (S2 (dgT s)).1 2 0-1:=⟨A4 h,A4 h,A4 h⟩
def B10(h:mdG s=false):mdN s=byA s 3-32∧mdC s=byA s 4-33∧mdR s=byA s 5-33:=⟨A3 (by rw[h];decide),A3 (by rw[h];decide),A3 (by rw[h];decide)⟩
def B1C(h:Lib.hasPrefix s [27,91,60]=true)(h4:4≤(s.length:Int)):1≤((Lib.trimPrefix s [27,91,60]).length:Int)∧((Lib.trimPrefix s [27,91,60]).length:Int)≤(s.length:Int):=by
 unfold Lib.trimPrefix;rw[A4 h,C9];show 1≤(((s.length-3:Nat)):Int)∧(((s.length-3:Nat)):Int)≤_;omega
def l9{b1 b2 b3 b4 b5 b6 b7 a1 a2 a3 a4 a5 a6 a7:Int}{c d:Bool}{u:D1}(h1:a1=b1)(h2:a2=b2)(h3:a3=b3)(h4:a4=b4)(h5:a5=b5)(h6:a6=b6)(h7:a7=b7)(h8:u=t)(h9:c=d):[U.int .i64 a1,.int .i64 a2,.int .i64 a3,.int .i64 a4,.int .i64 a5,.int .i64 a6,.int .i64 a7,.str u,.bool c]=[U.int .i64 b1,.int .i64 b2,.int .i64 b3,.int .i64 b4,.int .i64 b5,.int .i64 b6,.int .i64 b7,.str t,.bool d]:=by rw[h1,h2,h3,h4,h5,h6,h7,h8,h9]
def A1x(h:(!z)=false):z=true:=by cases z<;>first|rfl|cases h
noncomputable def B4h:Q1:=⟨_,fun hst=>(.cons (B2N hst) (.cons (TN hst) (.cons (A8E hst) (.cons (A8z hst) (.cons (VT hst) (.cons (B3p hst) .nil))))))⟩
def NY:List U→Option (Nat×List U)
 | [.str s]=>if 3≤(s.length:Int)∧(Lib.hasPrefix s [27,91,60]=false∨4≤(s.length:Int))∧(Lib.hasPrefix s [27,91,77]=false∨6≤(s.length:Int))∧(s.length:Int)≤100000 then some (0,[.int .i64 (ifI (mdB s) 2),.int .i64 (0),.int .i64 (ifI (mdB s) (mdN s / 4%8)),.int .i64 (ifI (mdB s) (mdV s)),.int .i64 (ifI (mdB s) (mdN s%4)),.int .i64 (ifI (mdB s) (mdR s)),.int .i64 (ifI (mdB s) (mdC s)),.str ([]),.bool (mdB s)])else none
 | _=>none
def A5Y(s:D1)(hc:3≤(s.length:Int)∧(Lib.hasPrefix s [27,91,60]=false∨4≤(s.length:Int))∧(Lib.hasPrefix s [27,91,77]=false∨6≤(s.length:Int))∧(s.length:Int)≤100000):NY [.str s]=some (0,[.int .i64 (ifI (mdB s) 2),.int .i64 (0),.int .i64 (ifI (mdB s) (mdN s / 4%8)),.int .i64 (ifI (mdB s) (mdV s)),.int .i64 (ifI (mdB s) (mdN s%4)),.int .i64 (ifI (mdB s) (mdR s)),.int .i64 (ifI (mdB s) (mdC s)),.str ([]),.bool (mdB s)]):=A4 hc
def iD(a0:Int)(a1:Nat)(a2:Nat):Tr:=.ret [jI 2,jI 0,h3 (a2+3),jI a0,h3 (a2+1),h3 a2,h3 a1,.string ⟨⟨[]⟩⟩,.bool true]
def iE(a0:Int)(a1:Nat)(a2:Nat)(a3:Nat)(k0 k1:Tr):Tr:=.fn tY [.bool false,.bool false,.bool false,.bool false,.bool false,.bool false,.bool false,.bool false,.bool false,.bool false,.bool false,jI 1003,h 2 8,jI 2,jI 0,h3 (a2+3),jI a0,h3 (a2+1),h3 a2,h3 a1,.string ⟨⟨[]⟩⟩] 1<|aN [h a3 9,h 0 9]<|.br (a3+1) k0 k1
def iF(a0:Int)(a1:Nat)(a2:Nat)(a3:Nat)(k0 k1:Tr):Tr:=.fn BC [jI 2,jI 0,h3 (a2+3),jI a0,h3 (a2+1),h3 a2,h3 a1,.string ⟨⟨[]⟩⟩] 1<|aN [h3 a3,jI 0]<|.br (a3+1) k0 k1
def A2I(n:Nat):Tr:=iF 1 17 19 n K7 (iE 1 17 19 (n+2) K7 (iD 1 17 19))
def A2H(n:Nat):Tr:=iF 0 17 19 n K7 (iE 0 17 19 (n+2) K7 (iD 0 17 19))
def A2G(n:Nat):Tr:=iF 0 11 14 n K7 (iE 0 11 14 (n+2) K7 (iD 0 11 14))
def A7_:Tr:=.fn gQ [h 0 9,.string ⟨⟨[27,91,77]⟩⟩] 1<|aX [h 1 8]<|aD [h 0 9]<|aS [h3 3,jI 1]<|.lt 4 (.idx) [h 0 9,h3 4]<|.br 2 (.fn PG [h 0 9,.string ⟨⟨[27,91,60]⟩⟩] 2<|I3 8 7 K7 (aD [h 6 9]<|aS [h3 9,jI 1]<|.lt 9 (.sub) [h 6 9,jI 0,h3 10]<|.fn MU [h 11 9] 2<|cC 13 14 0 K7 (.fn wB [h 12 11,jI 0,jI 0] 1<|.fn wB [h 12 11,jI 1,jI 0] 1<|aS [h3 16,jI 1]<|.fn wB [h 12 11,jI 2,jI 0] 1<|aS [h3 18,jI 1]<|.lt 3 (.bin .and) [h3 15,jI 3]<|.lt 3 (.bin .shr) [h3 15,.int .u64 (2)]<|.lt 3 (.bin .and) [h3 21,jI 7]<|mM 15 23 64 (iF 3 17 19 25 K7 (iE 3 17 19 27 K7 (iD 3 17 19))) (mM 15 25 32 (iF 2 17 19 27 K7 (iE 2 17 19 29 K7 (iD 2 17 19))) (aE [h 5 4,.int .u8 (109)]<|.br 27 (A2I 28) (I3 28 2 (G3 20 29 3 (A2I 30) (A2H 30)) (A2H 29))))))) (.lt 4 (.idx) [h 0 9,jI 3]<|.lt 3 (.conv .i64) [h 6 4]<|aS [h3 7,jI 32]<|.lt 4 (.idx) [h 0 9,jI 4]<|.lt 3 (.conv .i64) [h 9 4]<|aS [h3 10,jI 33]<|.lt 4 (.idx) [h 0 9,jI 5]<|.lt 3 (.conv .i64) [h 12 4]<|aS [h3 13,jI 33]<|.lt 3 (.bin .and) [h3 8,jI 3]<|.lt 3 (.bin .shr) [h3 8,.int .u64 (2)]<|.lt 3 (.bin .and) [h3 16,jI 7]<|mM 8 18 64 (iF 3 11 14 20 K7 (iE 3 11 14 22 K7 (iD 3 11 14))) (mM 8 20 32 (iF 2 11 14 22 K7 (iE 2 11 14 24 K7 (iD 2 11 14))) (I3 22 2 (G3 15 23 3 (iF 1 11 14 24 K7 (iE 1 11 14 26 K7 (iD 1 11 14))) (A2G 24)) (A2G 23))))
def B2v{G}(hst:L9 G):M2 prog G 128 [.s 9] NY [.a [3,3,3,3,3,3,3,9],.s 8]:=by
 refine F1 (d:=60) A7_ (cxg (B4h.2 hst) .nil) hst ⟨f128,_,func128,rfl⟩ D0 D0 ?_;intro us outs hs;unfold NY at hs;split at hs
 ·skip;rename_i s;split at hs
  ·rename_i hc;cases hs;have zv:=fun i=>B1W (dgT s) i
   have zv0:=zv 0;have zv1:=zv 1;have zv2:=zv 2;unfold dgT at zv0 zv1 zv2;have zb3:(((s.getD (3:Int).toNat 0).toNat:Nat):Int)<256:=by have:=(s.getD (3:Int).toNat 0).toNat_lt;omega
   have zb4:(((s.getD (4:Int).toNat 0).toNat:Nat):Int)<256:=by have:=(s.getD (4:Int).toNat 0).toNat_lt;omega
   have zb5:(((s.getD (5:Int).toNat 0).toNat:Nat):Int)<256:=by have:=(s.getD (5:Int).toNat 0).toNat_lt;omega
   have z4:Lib.hasPrefix s [27,91,60]=true→4≤(s.length:Int)∧1≤((Lib.trimPrefix s [27,91,60]).length:Int)∧((Lib.trimPrefix s [27,91,60]).length:Int)≤(s.length:Int):=fun h=>⟨hc.2.1.resolve_left (by rw[h];decide),B1C h (hc.2.1.resolve_left (by rw[h];decide))⟩
   have z6:Lib.hasPrefix s [27,91,77]=true→6≤(s.length:Int):=fun h=>hc.2.2.1.resolve_left (by rw[h];decide)
   have z7:=hc.1;have z8:=hc.2.2.2;unfold A7_;refine w0 (.cons 0 _ (.nil)) ?_;repeat (first|refine w4 (fun g=>?_) fun g=>?_|refine w4B (fun g=>?_) fun g=>?_|(refine w7 [.int .i64 _,.int .i64 _,.int .i64 _,.int .i64 _,.int .i64 _,.int .i64 _,.int .i64 _,.str _,.bool _] ?_;rotate_left)|refine mL ?_|refine HN ?_|refine w31 BC (e:=VL _ _ _ _ _ _ _ _ ⟨A1,A1,by show(0:Int)≤_;omega⟩) (k':=?_)|refine w31 tY (e:=WJ _ _ _ _ _ _ _ _ _ _ _ _ _ _ _ _ _ _ _ _ _ (OD (A2J ‹_›) rfl)) (k':=?_)|refine A9k ?_|refine l4 ?_|refine mK ?_|refine fV ?_|refine cE ?_|refine w1 (.idx) (e:=SO _ _ _ A1 A1) (k':=?_)|refine w31 wB (e:=A4d _ _ _ C3) (k':=?_)|refine U1 ?_|refine LB ?_|refine w1 (.bin .and) (e:=fA 2 4 C3 C3 C3) (k':=?_)|refine w1 (.bin .shr) (e:=T7 4 C3 C3) (k':=?_)|refine w1 (.bin .and) (e:=fA 3 8 C3 C3 C3) (k':=?_)|refine w1 (.bin .and) (e:=A22 _) (k':=?_)|refine w1 (.bin .and) (e:=A23 _) (k':=?_)|refine w31 gQ (e:=yZ s [27,91,77]) (k':=?_)|refine w32 PG (e:=A6E s [27,91,60]) (k':=?_)|refine w1 (.sub) (e:=WC _ _ _ _ _ A1 A1 A1) (k':=?_)|refine w32 MU (e:=A4_ _) (k':=?_)|replace z4:=z4 (A1x ‹_›)|replace z6:=z6 (A1x ‹_›))
   all_goals
    first
    | (have hB:mdB s=false:=A70 (by unfold mdP mdG;rw[A4 ‹_›,show Lib.hasPrefix s [27,91,60]=false from RT ‹_›];rfl)
       rw[hB];exact l9 rfl rfl rfl rfl rfl rfl rfl rfl rfl)
    | (have hB:mdB s=false:=A70 (by unfold mdP mdG;rw[A4 ‹_›,F6 ‹_›,V9])
       rw[hB];exact l9 rfl rfl rfl rfl rfl rfl rfl rfl rfl)
    | (have hG:mdG s=true:=‹_›
       obtain⟨e1,e4,e3⟩:=B1z hG;have hp:mdP s=true:=by
        unfold mdP;rw[A4 hG,show Lib.hasPrefix s [27,91,60]=true from A1x ‹_›,F4 (F8.1 ‹_›)];rfl
       have e2:mdV s=mdW true (mdN s) (mdL s):=by unfold mdV;rw[hG]
       rw[e1]at e2;unfold dgT at e1 e2 e3 e4;unfold mdW at e2
       (repeat (first|rw[A3 ‹_›]at e2|rw[A4 ‹_›]at e2|rw[A4 (.inl ⟨rfl,by assumption⟩)]at e2|rw[A4 (.inr ⟨rfl,by assumption⟩)]at e2|rw[A3 (fun h=>h.elim (fun h=>absurd h.2 ‹_›) (fun h=>by cases h.1))]at e2|rw[A3 (fun h=>h.elim (fun h=>by cases h.1) (fun h=>absurd h.2 ‹_›))]at e2))
       first
       | (have hB:=A7z e1 e2 e3 e4 (A8D ‹_›)
          rw[hB];exact l9 rfl rfl rfl rfl rfl rfl rfl rfl rfl)
       | (have hB:=A7y rfl e1 e2 e3 e4 ‹_›
          rw[hB];exact l9 rfl rfl rfl rfl rfl rfl rfl rfl rfl)
       | (have hB:=A5Q rfl e1 e2 e3 e4 hp (A2J ‹_›) ‹_›
          rw[hB,e1,e2,e3,e4];exact l9 rfl rfl rfl rfl rfl rfl rfl rfl rfl)
       | (exfalso;simp_all;done)
)
    | (have hG:mdG s=false:=‹_›
       obtain⟨e1,e4,e3⟩:=B10 hG;have hp:mdP s=true:=by unfold mdP;rw[A3 (by rw[hG];decide)]
       have e2:mdV s=mdW false (mdN s) (mdL s):=by unfold mdV;rw[hG]
       rw[e1]at e2;unfold byA at e1 e2 e3 e4;unfold mdW at e2
       (repeat (first|rw[A3 ‹_›]at e2|rw[A4 ‹_›]at e2|rw[A4 (.inl ⟨rfl,by assumption⟩)]at e2|rw[A4 (.inr ⟨rfl,by assumption⟩)]at e2|rw[A3 (fun h=>h.elim (fun h=>absurd h.2 ‹_›) (fun h=>by cases h.1))]at e2|rw[A3 (fun h=>h.elim (fun h=>by cases h.1) (fun h=>absurd h.2 ‹_›))]at e2))
       first
       | (have hB:=A7z e1 e2 e3 e4 (A8D ‹_›)
          rw[hB];exact l9 rfl rfl rfl rfl rfl rfl rfl rfl rfl)
       | (have hB:=A7y rfl e1 e2 e3 e4 ‹_›
          rw[hB];exact l9 rfl rfl rfl rfl rfl rfl rfl rfl rfl)
       | (have hB:=A5Q rfl e1 e2 e3 e4 hp (A2J ‹_›) ‹_›
          rw[hB,e1,e2,e3,e4];exact l9 rfl rfl rfl rfl rfl rfl rfl rfl rfl)
       | (exfalso;simp_all;done)
)
  ·cases hs
 ·cases hs
def sfX(p u:E0):Bool:=decide (((el u).length:Int)≤((el p).length:Int)) && decide (iB (el (L8 p (((el p).length:Int)-(el u).length).toNat ((el p).length:Int).toNat))=iB (el u))
def sfP(p u:E0):E0:=if sfX p u=true then L8 p (0:Int).toNat (((el p).length:Int)-(el u).length).toNat else p
def B5Q{p:E0}(h:¬((el p).length:Int)≥(el u).length):sfX p u=false:=by unfold sfX;rw[F6 A1,Z6]
def B5P{p:E0}(h:iB (el (L8 p (((el p).length:Int)-(el u).length).toNat ((el p).length:Int).toNat))≠iB (el u)):sfX p u=false:=by unfold sfX;rw[F6 h,V9]
def B5O{p:E0}(h0:((el p).length:Int)≥(el u).length)(h:iB (el (L8 p (((el p).length:Int)-(el u).length).toNat ((el p).length:Int).toNat))=iB (el u)):sfX p u=true:=by unfold sfX;rw[F4 A1,F4 h];rfl
def A90{p:E0}{b:Bool}(h:sfX p u=b)(hx:x=if b=true then L8 p (0:Int).toNat (((el p).length:Int)-(el u).length).toNat else p):[B6 rB x,U.bool b]=[B6 rB (sfP p u),U.bool (sfX p u)]:=by
 unfold sfP;rw[h,hx]
def eC{p:E0}{i j:Nat}(h:∀ x ∈ el p,0≤x∧x<256):∀ x ∈ el (L8 p i j),0≤x∧x<256:=fun x hx=>by
 rw[K5]at hx;exact h x (M3 (N3 hx))
noncomputable def B40:Q1:=⟨_,fun hst=>.nil⟩
def GL:List U→Option (Nat×List U)
 | [u_p,u_u]=>(J8 rB u_p).bind fun p=>(J8 rB u_u).bind fun u=>if((el p).length:Int)≤100000000∧((el u).length:Int)≤100000000∧(∀ x ∈ el p,0≤x∧x<256)∧(∀ x ∈ el u,0≤x∧x<256)then some (0,[B6 rB (sfP p u),.bool (sfX p u)])else none
 | _=>none
def A6D(p:E0)(u:E0)(hc:((el p).length:Int)≤100000000∧((el u).length:Int)≤100000000∧(∀ x ∈ el p,0≤x∧x<256)∧(∀ x ∈ el u,0≤x∧x<256)):GL [B6 rB p,B6 rB u]=some (0,[B6 rB (sfP p u),.bool (sfX p u)]):=by
 simp only[GL,G9,D8];exact A4 hc
def A9F:Tr:=aD [h 0 11]<|aD [h 1 11]<|aH [h3 2,h3 3]<|.br 4 (aS [h3 2,h3 3]<|.dt 11 (.subs 1) [h 0 11,h3 5,h3 2]<|.lt 9 (.str) [h 6 11]<|.lt 9 (.str) [h 1 11]<|aE [h 7 9,h 8 9]<|I3 10 9 (.ret [h 0 11,.bool false]) (aS [h3 2,h3 3]<|.dt 11 (.subs 1) [h 0 11,jI 0,h3 11]<|.ret [h 12 11,.bool true])) (.ret [h 0 11,.bool false])
def B3o{G}(hst:L9 G):M2 prog G 145 [.s 11,.s 11] GL [.s 11,.s 8]:=by
 refine F1 (d:=60) A9F (cxg (B40.2 hst) .nil) hst ⟨f145,_,func145,rfl⟩ D0 D0 ?_;intro us outs hs;unfold GL at hs;split at hs
 ·skip;rename_i u_p u_u;have hq_p:=A9.1 hs;clear hs;obtain⟨p,hd_p,hs⟩:=hq_p;replace hd_p:=G1 hd_p;subst hd_p;have hq_u:=A9.1 hs;clear hs;obtain⟨u,hd_u,hs⟩:=hq_u;replace hd_u:=G1 hd_u;subst hd_u;split at hs
  ·rename_i hc;cases hs;unfold A9F;refine w0 (.cons 1 _ (.cons 0 _ (.nil))) ?_;refine W8 ?_;refine W8 ?_;refine jK ?_;refine w5 (fun g0=>?_) fun g0=>?_
   ·refine w7 [B6 rB _,.bool _] ?_;exact A90 (B5Q g0) rfl
   first|refine HN ?_|refine wF ?_
   refine w2 (.subs 1) (r:=rB) (e:=V6 rfl A1 A1 A1) (k':=?_);refine w1 (.str) (e:=eY rfl (by first|exact eC hc.2.2.1|exact hc.2.2.2)) (k':=?_);refine w1 (.str) (e:=eY rfl (by first|exact eC hc.2.2.1|exact hc.2.2.2)) (k':=?_);refine A4k ?_;refine l4 ?_;refine w4 (fun g1=>?_) fun g1=>?_
   ·refine w7 [B6 rB _,.bool _] ?_;exact A90 (B5P (by first|exact g1|(simpa using g1))) rfl
   first|refine HN ?_|refine wF ?_
   refine w2 (.subs 1) (r:=rB) (e:=V6 rfl A1 A1 A1) (k':=?_);refine w7 [B6 rB _,.bool _] ?_;exact A90 (B5O g0 (by first|exact g1|(simpa using g1))) rfl
  ·cases hs
 ·cases hs
def rmE(s:D1):D1:=s.filter (fun b=>!(b == 27))
def A1N:∀ s:D1,Lib.replaceK [27] [] (s.count 27) s=rmE s
 | []=>rfl
 | b::r=>by
   have ih:=A1N r;by_cases hb:b=27
   ·subst hb;have h0:Lib.index (27::r) [27]=((0:Nat):Int):=by rw[Lib.index_one];rfl
    rw[List.count_cons_self,Lib.replaceK_hit [27] [] _ _ 0 h0];show[]++[]++Lib.replaceK [27] [] (r.count 27) r=_;rw[ih];rfl
   ·have hb':(b == 27)=false:=by simpa using hb
    have e:rmE (b::r)=b::rmE r:=by unfold rmE;rw[List.filter_cons_of_pos (by simp[hb'])]
    have hc:(b::r).count 27=r.count 27:=by rw[List.count_cons,hb'];simp
    rw[hc,e,← ih];cases hk:r.count 27 with
    | zero=>rfl
    | succ k =>
      obtain⟨i,hi⟩:=Lib.index_of_count (s:=r) (old:=[27]) (by rw[Lib.count_one,hk];omega);have hi':Lib.index (b::r) [27]=((i+1:Nat):Int):=by
       have hp:([27]:D1).isPrefixOf (b::r)=false:=by
        show((27:UInt8) == b && _)=false;have:((27:UInt8) == b)=false:=by simpa using fun h:(27:UInt8)=b=>hb h.symm
        rw[this];rfl
       have hm:¬ ((i:Int) == -1)=true:=fun h=>by have:=beq_iff_eq.1 h;omega
       rw[Lib.index,hp,hi];simp only[K0,if_false];rw[A3 hm];omega
      rw[Lib.replaceK_hit [27] [] k _ _ hi',Lib.replaceK_hit [27] [] k r i hi];rfl
def B0B(s:D1):Lib.replaceAll s [27] []=rmE s:=by
 unfold Lib.replaceAll Lib.replace;rw[A3 C3];have:Lib.replaceNum s [27] (-1)=s.count 27:=by unfold Lib.replaceNum;rw[A4 (.inl C3),Lib.count_one]
 rw[this,A1N]
def MA:List U→Option (Nat×List U)
 | [.str s,.str u,.str v]=>if s.length≤100000000∧u=[27]∧v=[]then some (0,[.str (rmE s)])else none
 | _=>none
def A4x(s:D1)(u:D1)(v:D1)(hc:s.length≤100000000∧u=[27]∧v=[]):MA [.str s,.str u,.str v]=some (0,[.str (rmE s)]):=A4 hc
def B14{G}(hst:L9 G):M2 prog G 29 [.s 9,.s 9,.s 9] MA [.s 9]:=by
 intro us outs w vs R hsh hs hG hR;unfold MA at hs;split at hs
 ·skip;rename_i s u v;split at hs
  ·rename_i hc;cases hs;have hv:=m9 (vs2:=[.string ⟨⟨s⟩⟩,.string ⟨⟨u⟩⟩,.string ⟨⟨v⟩⟩]) hsh rfl;subst hv;refine uD (vr:=[.string ⟨⟨rmE s⟩⟩]) func29 rfl D0 rfl ?_;obtain⟨hl,rfl,rfl⟩:=hc;have hl2:ByteArray.size ⟨⟨s⟩⟩=s.length:=rfl;refine(Tryz.strings_ReplaceAll_shaped ⟨⟨s⟩⟩ ⟨⟨[27]⟩⟩ ⟨⟨[]⟩⟩ w (xQ hst hG) A1 C3 (by show _+_*0≤_;omega)).mono fun e w' ⟨h1,h2⟩=>⟨?_,h2⟩
   rw[show Lib.replaceAll (ByteArray.mk (Array.mk s)).data.toList (ByteArray.mk (Array.mk [27])).data.toList (ByteArray.mk (Array.mk [])).data.toList=rmE s from B0B s]at h1;exact h1
  ·cases hs
 ·cases hs
def B5d{l:List Int}(h:knd l=2):S3 (l.getD 0 0)=(l.length:Int)∧okT (l.drop 1) (loB (l.getD 0 0)) (hiB (l.getD 0 0))=true:=by
 unfold knd at h;split at h
 ·omega
 ·split at h
  ·rename_i h2;split at h
   ·omega
   ·exact⟨A1,h2⟩
  ·omega
def B5Y{r:List Int}(h:okT (a::r) lo hi=true):lo≤a∧a≤hi∧okT r 128 191=true:=by
 have h:(decide (lo≤a∧a≤hi) && okT r 128 191)=true:=h;obtain⟨h1,h2⟩:=N7 h
 have:=J0 h1;exact⟨this.1,this.2,h2⟩
def A3m{l:List Int}(hb:∀ x ∈ l,0≤x∧x<256)(h:knd l=2):0≤dN l∧dN l≤1114111:=by
 obtain⟨h1,h2⟩:=B5d h
 match l,hb,h1,h2 with
 | [],_,h1,_ =>
   have h1:S3 0=0:=h1;exact absurd h1 C3
 | [a],hb,h1,_ =>
   have h1:S3 a=1:=h1
   have:=hb a (by simp);have e:dN [a]=a:=rfl;rw[e];omega
 | [a,b],hb,h1,h2 =>
   have e:dN [a,b]=a%32*64+b%64:=rfl;rw[e];omega
 | [a,b,c],hb,h1,h2 =>
   have e:dN [a,b,c]=(a%16*64+b%64)*64+c%64:=rfl;rw[e];omega
 | [a,b,c,d],hb,h1,h2 =>
   have e:dN [a,b,c,d]=((a%8*64+b%64)*64+c%64)*64+d%64:=rfl;have h1:S3 a=4:=h1;have h2:okT [b,c,d] (loB a) (hiB a)=true:=h2;obtain⟨k1,k2,_⟩:=B5Y h2;have ha:240≤a∧a≤244:=by unfold S3 at h1;(repeat' split at h1)<;>omega
   have hh:(a=244∧hiB a=143)∨(a≤243∧hiB a≤191):=by unfold hiB;(repeat' split)<;>omega
   have hl:128≤loB a:=by unfold loB;(repeat' split)<;>omega
   rw[e];omega
 | a::b::c::d::x::r,hb,h1,h2 =>
   have h1:S3 a=((a::b::c::d::x::r).length:Int):=h1
   have:=A2C (l:=a::r);have:S3 a≤4:=this;simp only[B3]at h1;omega
def A4f{l:List Int}(hl:∀ x ∈ l,0≤x∧x<256)(h0:0≤b)(h1:b<256):∀ x ∈ el (utC l b),0≤x∧x≤1114111:=by
 have hlb:∀ x ∈ l++[b],0≤x∧x<256:=fun x hx=>by
  rcases B5.1 hx with h|h
  ·exact hl x h
  ·have:x=b:=by simpa using h
   omega
 have hb1:∀ x ∈ [b],0≤x∧x<256:=fun x hx=>hlb x (j8 _ hx)
 have h0':∀ x ∈ el (xO b),0≤x∧x≤1114111:=by
  unfold xO;split
  ·rename_i k;intro x hx;have e:x=dN [b]:=by simpa [el]using hx
   rw[e];exact A3m hb1 k
  ·split
   ·intro x hx;cases hx
   ·intro x hx;have e:x=65533:=by simpa [el]using hx
    omega
 unfold utC;split
 ·rename_i k;intro x hx;have e:x=dN (l++[b]):=by simpa [el]using hx
  rw[e];exact A3m hlb k
 ·split
  ·intro x hx;cases hx
  ·split
   ·intro x hx;have e:x=65533:=by simpa [el]using hx
    omega
   ·intro x hx;have hx:x=65533∨x ∈ el (xO b):=by simpa [el]using hx
    rcases hx with e|hx
    ·omega
    ·exact h0' x hx
def TP{l:List Int} :((el (utC l b)).length:Int)≤2:=by
 have:=KX b;unfold utC
 (repeat' split)<;>simp[el]<;>first|omega|(have e:(xO b).getD []=el (xO b):=rfl;rw[e];omega)
def A4e{l:List Int} :((el (utR l b)).length:Int)≤3:=by
 unfold utR;split
 ·simp[el]
 ·split
  ·rename_i k;have:=jT k;simp only[E8];exact this
  ·split
   ·simp[el]
   ·unfold QL;split
    ·simp[el]
    ·simp[el]
noncomputable def A4S:List LpE:=[(99,([true,true,true,true,true,false,true,false],P3 prog gl n0 26 A8u lU)),(72,([true,true,false,true,false],P3 prog gl n0 7 LP jM)),(72,([true,true,false,true,false,false,true,false,false,true,false],P3 prog gl n0 7 EJ mR))]
def iR{G}(hst:L9 G):r7 prog G gl A4S:=(.cons func99 A8t A8s (B3S hst) (.cons func72 LO LN (TX hst) (.cons func72 EI EH (LQ hst) .nil)))
def fs1(f:D1)(r:E0):E0:=if 0<((el r).length:Int)then Y5 (some (bI f)) r else none
def fsP(f:D1)(q:E0)(b:Int):E0:=if((el q).length:Int)=0∧b=27 then some [27]else if((el q).length:Int)=0∧b<128 then none else
 if 0<((el (utC (el q) b)).length:Int)∧0<((el (utR (el q) b)).length:Int)then utR (el q) b else cP (el (utC (el q) b)) (fs1 f (utR (el q) b))
def fsI(f:D1)(q:E0)(b:Int)(l:Option (List Y2)):Option (List Y2):=if((el q).length:Int)=0∧b=27 then l else if((el q).length:Int)=0∧b<128 then some (el l++[ipK (plC b) (plM b+(f.length:Int)*2)])else
 cI (el (utC (el q) b)) ((f.length:Int)*2) l
def B5o{f:D1}{l:Option (List Y2)}(h:((el q).length:Int)=0∧b=27):some [27]=fsP f q b∧l=fsI f q b l:=by unfold fsP fsI;rw[A4 h,A4 h];exact⟨rfl,rfl⟩
def B3Q{f:D1}{l:Option (List Y2)}(h:¬(((el q).length:Int)=0∧b=27))(h2:((el q).length:Int)=0∧b<128):none=fsP f q b∧some (el l++[ipK (plC b) (plM b+(f.length:Int)*2)])=fsI f q b l:=by unfold fsP fsI;rw[A3 h,A4 h2,A3 h,A4 h2];exact⟨rfl,rfl⟩
def B5n{f:D1}{l:Option (List Y2)}(h:¬(((el q).length:Int)=0∧b<128))(hc:0<((el (utC (el q) b)).length:Int)∧0<((el (utR (el q) b)).length:Int)):utR (el q) b=fsP f q b∧cI (el (utC (el q) b)) ((f.length:Int)*2) l=fsI f q b l:=by
 unfold fsP fsI;rw[A3 A1,A3 h,A4 hc,A3 A1,A3 h];exact⟨rfl,rfl⟩
def B5m{f:D1}{l:Option (List Y2)}(h:¬(((el q).length:Int)=0∧b<128))(hc:¬(0<((el (utC (el q) b)).length:Int)∧0<((el (utR (el q) b)).length:Int)))(hr:0<((el (utR (el q) b)).length:Int)):cP (el (utC (el q) b)) (Y5 (some (bI f)) (utR (el q) b))=fsP f q b∧cI (el (utC (el q) b)) ((f.length:Int)*2) l=fsI f q b l:=by
 unfold fsP fsI fs1;rw[A3 A1,A3 h,A3 hc,A4 hr,A3 A1,A3 h];exact⟨rfl,rfl⟩
def B5l{f:D1}{l:Option (List Y2)}(h:¬(((el q).length:Int)=0∧b<128))(hr:¬0<((el (utR (el q) b)).length:Int)):cP (el (utC (el q) b)) none=fsP f q b∧cI (el (utC (el q) b)) ((f.length:Int)*2) l=fsI f q b l:=by
 unfold fsP fsI fs1;rw[A3 A1,A3 h,A3 (fun h=>hr h.2),A3 hr,A3 A1,A3 h];exact⟨rfl,rfl⟩
def B0n(h:a=0∨a=4)(h2:m=0∨m=2):evU (.bin .or) [.int .i64 a,.int .i64 m]=.int .i64 (a+m):=by
 rcases h with rfl|rfl<;>rcases h2 with rfl|rfl<;>rfl
def OK{a c:E0}{b d:Option (List Y2)}{mp:Option (List Qt)}(h:a=c∧b=d):[B6 rB c,B6 rI d,B6 rQ mp]=[B6 rB a,B6 rI b,B6 rQ mp]:=by rw[h.1,h.2]
noncomputable def B4q:Q1:=⟨_,fun hst=>(.cons (lW hst) (.cons (A6k hst) (.cons (A75 hst) .nil)))⟩
def qA:List U→Option (Nat×List U)
 | [.str f,u_q,.int .u8 b,u_p,u_inp,u_mp]=>(J8 rB u_q).bind fun q=>(J8 rB u_p).bind fun p=>(J8 rI u_inp).bind fun inp=>(J8 rQ u_mp).bind fun mp=>if(f=[]∨f=[27])∧(((el q).length:Int)≤100∧(((el q).length:Int)=0∨knd (el q)=1)∧0≤b∧b<256∧∀ x ∈ el q,0≤x∧x<256)∧((el inp).length:Int)≤900000 then some (0,[B6 rB (fsP f q b),B6 rI (fsI f q b inp),B6 rQ mp])else none
 | _=>none
def JD(f:D1)(q:E0)(b:Int)(p:E0)(inp:(Option (List (Int×Int×Int×Int×Int×Int×Int×D1))))(mp:(Option (List (D1×Int×Int×Int×Int×Int×Int×Int×D1))))(hc:(f=[]∨f=[27])∧(((el q).length:Int)≤100∧(((el q).length:Int)=0∨knd (el q)=1)∧0≤b∧b<256∧∀ x ∈ el q,0≤x∧x<256)∧((el inp).length:Int)≤900000):qA [.str f,B6 rB q,.int .u8 b,B6 rB p,B6 rI inp,B6 rQ mp]=some (0,[B6 rB (fsP f q b),B6 rI (fsI f q b inp),B6 rQ mp]):=by
 simp only[qA,G9,D8];exact A4 hc
def B3O:Q8:=⟨[(0,.pointer (some ⟨9,0,none⟩)),(1,h 0 9),(2,dat 14 1 11),(3,h 2 4)],[(9,.cells 83 [dat 15 3 11,.map (some 7),own 16 4 18]),(7,.mp 5 19 81),(16,.sq 4 18 23 17),(14,.frz),(15,.frz),(17,.frz)],6,[⟨.ret,[(0,.pointer (some ⟨9,0,none⟩))],[(9,.cells 83 [dat 18 0 11,.map (some 7),own 19 1 18]),(7,.mp 2 19 81),(19,.sq 1 18 23 20),(18,.frz),(20,.frz)],3⟩]⟩
noncomputable def B3P:Code:=(f99.body).getD .skip
def B3N:f99.body=some B3P:=rfl
def Y6(a0:Nat)(a1:Nat):Tr:=.ret [jI 0,h a1 11,h a0 18,h (a0+1) 19]
def A2m(n:Nat):Tr:=.fn EA [h 1 11,h 2 4] 2<|cU n (n+2) 0 (.dt 11 (.byt) [h 0 9]<|.dt 11 (.cat 1) [h (n+4) 11,h n 11]<|aD [h (n+1) 11]<|.fn lU [h3 7,h n 11,h (n+1) 11,h (n+1) 11,h3 (n+6),jI 0,h (n+5) 11,h 4 18,h 5 19] 5<|cU (n+8) (n+12) 0 (cU (n+7) (n+14) 0 (Y6 (n+10) (n+7)) (Y6 (n+10) (n+9))) (Y6 (n+10) (n+9))) (aD [h (n+1) 11]<|.dt 11 (.nilw 1) []<|.fn lU [h3 7,h n 11,h (n+1) 11,h (n+1) 11,h3 (n+4),jI 0,h (n+5) 11,h 4 18,h 5 19] 5<|cU (n+7) (n+11) 0 (cU (n+6) (n+13) 0 (Y6 (n+9) (n+6)) (Y6 (n+9) (n+8))) (Y6 (n+9) (n+8)))
def HQ(a0:Nat)(a1:Nat)(a2:Nat)(a3:Nat):Tr:=.dt 18 (.snoc 8) [h a0 18,h3 a1,h3 (a1+1),h3 a2,h3 (a1+3),h3 (a1+4),h3 (a1+5),h3 (a1+6),h (a1+7) 9]<|.dt 11 (.nilw 1) []<|.ret [jI 0,h (a3+1) 11,h a3 18,h (a0+1) 19]
def A2l(n:Nat):Tr:=G3 8 n 0 (aL [h 2 4,.int .u8 (128)]<|.br (n+1) (.fn BB [h 2 4] 8<|.lt 3 (.bin .or) [h3 (n+4),h3 7]<|HQ 4 (n+2) (n+10) (n+11)) (A2m (n+2))) (A2m (n+1))
def A8n:Tr:=aD [h 0 9]<|.lt 3 (.bin .mul) [h3 6,jI 2]<|eQ 0 1 8 (aE [h 2 4,.int .u8 (27)]<|.br 10 (.dt 11 (.mk 1) [.int .u8 (27)]<|Y6 4 11) (A2l 11)) (A2l 10)
def A8o{G}(hst:L9 G):HI prog G gl 99 (NH prog f99 gl n0 21 B3O qA):=by
 refine IP (dep:=60) (f:=99) (n0:=n0) (nB:=21) (H0:=H0) A8n (cxg (B4q.2 hst) (iR hst)) hst func99 B3N D0 D0 D0 ?_;intro us d outs hs;have hs0:=hs;unfold qA at hs;split at hs
 ·skip;rename_i f u_q b u_p u_inp u_mp;have hq_q:=A9.1 hs;clear hs;obtain⟨q,hd_q,hs⟩:=hq_q;replace hd_q:=G1 hd_q;subst hd_q;have hq_p:=A9.1 hs;clear hs;obtain⟨p,hd_p,hs⟩:=hq_p;replace hd_p:=G1 hd_p;subst hd_p;have hq_inp:=A9.1 hs;clear hs;obtain⟨inp,hd_inp,hs⟩:=hq_inp;replace hd_inp:=G1 hd_inp;subst hd_inp;have hq_mp:=A9.1 hs;clear hs;obtain⟨mp,hd_mp,hs⟩:=hq_mp;replace hd_mp:=G1 hd_mp;subst hd_mp;split at hs
  ·rename_i hc;clear hs hs0;have zf:(f.length:Int)=0∨(f.length:Int)=1:=by rcases hc.1 with rfl|rfl<;>decide
   have zc:=TP (l:=el q) (b:=b);have zr:=A4e (l:=el q) (b:=b);have zg:=A4f (l:=el q) hc.2.1.2.2.2.2 hc.2.1.2.2.1 hc.2.1.2.2.2.1;refine⟨rfl,?_⟩;unfold A8n;refine w0 (.cons 5 _ (.cons 4 _ (.cons 3 _ (.cons 2 _ (.cons 1 _ (.cons 0 _ (.nil))))))) ?_;repeat (first|refine W8 ?_|(refine w7 [.int .i64 _,B6 rB _,B6 rI _,B6 rQ _] ?_;rotate_left)|refine w4 (fun g=>?_) fun g=>?_|refine mO ?_|(refine w3 lU (e:=cZ _ _ _ _ _ _ _ _ _ ⟨rfl,C3,A1,A1,A1,zg⟩) (k':=?_);show Wk _ _ (.cons _ _ (.cons _ _ (.cons _ _ (.cons _ _ (.cons _ _ _))))))|refine w2 (.nilw 1) (r:=rB) (e:=J2 rfl) (k':=?_)|refine U1 ?_|refine w32 EA (e:=A4g _ _ hc.2.1) (k':=?_)|refine w2 (.byt) (r:=rB) (e:=dA _ rfl) (k':=?_)|refine w2 (.cat 1) (r:=rB) (e:=tW rfl (by first|omega|(rw[E8,lK];omega)|(show 0+_≤_;omega))) (k':=?_)|refine B1g ?_|refine A67 ?_|refine cD ?_|(refine w3 BB (e:=VI _ ⟨A1,A1⟩) (k':=?_);show Wk _ _ (.cons _ _ (.cons _ _ (.cons _ _ (.cons _ _ (.cons _ _ (.cons _ _ (.cons _ _ (.cons _ _ _)))))))))|refine w1 (.bin .or) (e:=B0n (A7t _) A1) (k':=?_)|refine w2 (.snoc 8) (r:=rI) (e:=U5 (a:=(_,_,_,_,_,_,_,_)) rfl rfl C3 (by first|omega|(rw[E8,lK];omega)|(show 0+_≤_;omega))) (k':=?_)|refine LB ?_|refine w2 (.mk 1) (r:=rB) (e:=S7 [_] rfl C3 rfl) (k':=?_))
   all_goals first
    | refine L7 (d:=0) ?_
      rw[JD f q b p inp mp hc];refine H3 (fun z=>some (0,z)) ?_;first
      | exact OK (B5o A1)
      | exact OK (B3Q A1 A1)
      | exact OK (B5n A1 A1)
      | exact OK (B5m A1 A1 A1)
      | exact OK (B5l A1 A1)
      | (exfalso;omega)
  ·cases hs
 ·cases hs
end Go.Proofs.YtdimocjaepnifaaGreatDoor
