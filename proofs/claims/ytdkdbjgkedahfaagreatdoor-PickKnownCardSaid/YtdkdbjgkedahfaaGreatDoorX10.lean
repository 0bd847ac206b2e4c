import Derived.Test.YtdkdbjgkedahfaaGreatDoorX9
import Derived.Shelf.Strings.Builder1
import Derived.Shelf.Strings.Builder2
import Derived.Shelf.Small.Utf8
import Derived.Shelf.Small.Strs
import Derived.Shelf.Small.Wraps
import Derived.Shelf.Strings.BuilderF
import Derived.Shelf.Strings.BuilderK
import Derived.Shelf.Strings.Builder2Cap
import Derived.Shelf.Strconv.Itoa0
import Derived.Shelf.Strconv.Itoa1
import Derived.Shelf.LaysM
import Derived.Shelf.Strconv.Itoa2
import Derived.Shelf.Strconv.Itoa3
import Derived.Shelf.Strconv.Itoa4
import Derived.Shelf.Strings.Search1
import Derived.Shelf.Strings.Prefix
import Derived.Shelf.Strings.Runes
import Derived.Shelf.Bits.Mul64
import Derived.Shelf.Strings.Repeat
import Derived.Shelf.Strings.BuilderCap
import Derived.Shelf.Slices.Turned
import Derived.Test.YtdkdbjgkedahfaaGreatDoorProg
set_option linter.all false
set_option maxRecDepth 100000
set_option maxHeartbeats 4000000
namespace Go.Proofs.YtdkdbjgkedahfaaGreatDoor
open Go Go.Sx Go.Proofs.Tryz
variable {x:Int×Int}{a at_ bk bn e fk fn i j lk ln r un:Int}{u:Unit}{p:Prop}
def rB:Rw Int:=r1 (cX .u8)
def rCl:Rw (Int×Int×Int×Int×Int×Int×Int×Int×Int×Int×Int×Int):=rC (cX .i64) (rC (cX .i64) (rC (cX .i64) (rC (cX .i64) (rC (cX .i64) (rC (cX .i64) (rC (cX .i64) (rC (cX .i64) (rC (cX .i64) (rC (cX .i64) (rC (cX .i64) (r1 (cX .i64))))))))))))
def rRw:Rw ((Option (List (Int×Int×Int×Int×Int×Int×Int×Int×Int×Int×Int×Int)))×Bool):=rC (cSl rCl) (r1 A41)
def rQ:Rw (Int×Int):=rC (cX .i64) (r1 (cX .i64))
def inM(c:Int):Prop:=(768<=c/\c<=879)∨(1155<=c/\c<=1161)∨(1425<=c/\c<=1469)∨(1552<=c/\c<=1562)∨(1611<=c/\c<=1631)∨(6832<=c/\c<=6911)∨(7616<=c/\c<=7679)∨(8203<=c/\c<=8207)∨(8400<=c/\c<=8447)∨(65024<=c/\c<=65039)∨(65056<=c/\c<=65071)
def inW(c:Int):Prop:=(4352<=c/\c<=4447)∨(11904<=c/\c<=12350)∨(12353<=c/\c<=19903)∨(19968<=c/\c<=42191)∨(44032<=c/\c<=55203)∨(63744<=c/\c<=64255)∨(65072<=c/\c<=65135)∨(65280<=c/\c<=65376)∨(65504<=c/\c<=65510)∨(127744<=c/\c<=128591)∨(128640<=c/\c<=128767)∨(129280<=c/\c<=129535)∨(131072<=c/\c<=262141)
instance(c:Int):Decidable (inM c):=by unfold inM;infer_instance
instance(c:Int):Decidable (inW c):=by unfold inW;infer_instance
def okU(c:Int):Prop:=0<=c/\c<=1114111/\¬(55296<=c/\c<=57343)
instance(c:Int):Decidable (okU c):=by unfold okU;infer_instance
def sC(c:Int):Int:=if ¬okU c∨c<=31∨(127<=c/\c<=159)then -1 else if inM c then 0 else if inW c then 2 else 1
def dZ{c:Int}(h:¬okU c∨c<=31∨(127<=c/\c<=159)):sC c = -1:=B0 h
def vX{c:Int}(h:¬(¬okU c∨c<=31∨(127<=c/\c<=159)))(b:inM c):sC c=0:=by unfold sC;rw[A9 h,B0 b]
def vW{c:Int}(h:¬(¬okU c∨c<=31∨(127<=c/\c<=159)))(b:¬inM c)(h3:inW c):sC c=2:=by unfold sC;rw[A9 h,A9 b,B0 h3]
def eW{c:Int}(h:¬(¬okU c∨c<=31∨(127<=c/\c<=159)))(b:¬inM c)(h3:¬inW c):sC c=1:=by unfold sC;rw[A9 h,A9 b,A9 h3]
def inB(c:Int)(x:Int×Int):Bool:=decide (x.1<=c) && decide (c<=x.2)
def A0o{c:Int}(h:x.1<=c)(b:c<=x.2):inB c x=true:=by unfold inB;rw[I5 h,I5 b];rfl
def EY{c:Int}(h:¬x.1<=c∨¬c<=x.2):inB c x=false:=by
 unfold inB;rcases h with h|h
 .rw[U2 h];rfl
 .rw[U2 h,Bool.and_false]
def JH{c:Int}{l:List (Int×Int)}(h:(l.length:Int)<=i):(l.drop i.toNat).any (inB c)=false:=by rw[gQ l h];rfl
def A1k{c:Int}{l:List (Int×Int)}(b:0<=i)(f:i<(l.length:Int))(d:inB c (l.getD i.toNat default)=true):(l.drop i.toNat).any (inB c)=true:=by rw[Q8 l b f,qN,d];rfl
def GF{c:Int}{l:List (Int×Int)}(b:0<=i)(f:i<(l.length:Int))(d:inB c (l.getD i.toNat default)=false):(l.drop i.toNat).any (inB c)=(l.drop (i+1).toNat).any (inB c):=by rw[Q8 l b f,qN,d];rfl
def bU(b:Bool):Option Unit:=if b then some ()else none
def sB:List U->Option (Nat×List U)
 | [.int .i64 c,u_l,.int .i64 n,.int .i64 i]=>(R5 rQ u_l).bind fun l=>if n=((el l).length:Int)/\0<=i/\i<=n/\n<=1000 then w5 (bU (((el l).drop i.toNat).any (inB c))) [] (fun _=>[])else none
 | _=>none
def kW(c:Int)(l:(Option (List (Int×Int))))(n:Int)(i:Int)(b:n=((el l).length:Int)/\0<=i/\i<=n/\n<=1000):sB [.int .i64 c,C9 rQ l,.int .i64 n,.int .i64 i]=w5 (bU (((el l).drop i.toNat).any (inB c))) [] (fun _=>[]):=by
 simp only[sB,J3,G2];exact B0 b
def RA:U5:=⟨[(0,h 0 3),(7,dat 11 1 12),(8,h 2 3),(9,h 3 3)],[(11,.frz)],4,[⟨.exit 0,[],[],0⟩,⟨.ret,[(4,.bool true)],[],0⟩]⟩
noncomputable def XF:Code:=(f153.body).getD .skip
noncomputable def A3Q:Code:=match H8 [true,false,true,false] XF with|some (.loop x)=>x|_=>.skip
def A3T:f153.body=some XF:=rfl
def A3S:H8 [true,false,true,false] XF=some (.loop A3Q):=G4
def I0(a0:Int):Tr:=.ret [jI a0]
def jM(a0:Nat)(b:Nat)(a2:Nat)(d c:Tr):Tr:=.lt 8 (.bin .geq) [h a0 3,h b 3]<|.br a2 d c
def bJ(a0:Nat)(c:Nat)(a2:Nat)(b:Tr):Tr:=.lt 8 (.inbs 2) [h c 3,h a0 12]<|.br a2 b .no
def T8(a0:Nat)(b:Nat)(a2:Nat)(d c:Tr):Tr:=.lt 8 (.bin .lss) [h a0 3,h b 3]<|.br a2 d c
def A3R:Tr:=T8 3 2 4 (bJ 1 3 5 (.lt 3 (.get 2 0) [h 1 12,h 3 3]<|.lt 3 (.get 2 1) [h 1 12,h 3 3]<|jM 0 6 8 (.lt 8 (.bin .leq) [h 0 3,h 7 3]<|.br 9 (I0 1) (.lt 3 (.bin .add) [h 3 3,jI 1]<|.ret [jI (-1),h 0 3,h 1 12,h 2 3,h 10 3])) (.lt 3 (.bin .add) [h 3 3,jI 1]<|.ret [jI (-1),h 0 3,h 1 12,h 2 3,h 9 3]))) (I0 0)
def XD:List U->Nat
 | [.int .i64 c,u_l,.int .i64 n,.int .i64 i]=>(match R5 rQ u_l with|some l=>(n-i).toNat|none=>0)
 | _=>0
def GL(c:Int)(l:(Option (List (Int×Int))))(n:Int)(i:Int):XD [.int .i64 c,C9 rQ l,.int .i64 n,.int .i64 i]=(n-i).toNat:=by
 simp only[XD,J3]
def XE{G}(m:R0 G):∀ (E:Nat->U) (base:Nat),@N6 ⟨E,G⟩ prog base gl f153.ntmps A3Q (M4 prog gl n0 12 RA sB):=by
 refine W8 (C:=cx L0 []) (dep:=60) (f:=153) (n0:=n0) (nB:=12) (H0:=H0) XD A3R (cxg (OJ m) .nil) m func153 A3T A3S G4 G4 G4 ?_;intro us d outs g;have q:=g;unfold sB at g;split at g
 .skip;rename_i c s n i;have o:=B9.1 g;clear g;obtain⟨l,b,g⟩:=o;replace b:=M0 b;subst b;split at g
  .rename_i k;clear g q;refine⟨rfl,?_⟩;unfold A3R;refine s0 (.cons 3 _ (.cons 2 _ (.cons 1 _ (.cons 0 _ (.nil))))) rfl (by simp[Ev.ok,Ev.len]) ?_;refine s1 (J6 _ _ _) rfl rfl rfl ?_;refine s5 rfl (fun g0=>?_) fun g0=>?_
   .refine s7 [.int .i64 _] rfl ?_;refine D3 (d:=0) ?_;rw[kW c l n i k,JH A0];rfl
   refine s1 (G7 rfl) rfl rfl rfl ?_;refine s5 rfl (fun g1=>?_) fun g1=>?_
   .refine s8 ?_;first|omega
   refine s1 (u:=.int .i64 _) (B8 rfl A0 A0 rfl) rfl rfl rfl ?_;refine s1 (u:=.int .i64 _) (B8 rfl A0 A0 rfl) rfl rfl rfl ?_;refine s1 (O1 _ _ _) rfl rfl rfl ?_;refine s4 rfl (fun g2=>?_) fun g2=>?_
   .refine s1 (bM _ _ _) rfl rfl rfl ?_;refine s4 rfl (fun g3=>?_) fun g3=>?_
    .refine s7 [.int .i64 _] rfl ?_;refine D3 (d:=1) ?_;rw[kW c l n i k,A1k (i:=i) A0 A0 (A0o ‹_› ‹_›)];rfl
    first|refine s1 (D2 (D0 A0 A0)) rfl rfl rfl ?_|refine s1 (E5 _ _ _) rfl rfl rfl ?_
    refine s7 [.int .i64 _,.int .i64 _,C9 rQ _,.int .i64 _,.int .i64 _] rfl ?_;refine F0 ?_ ?_
    .rw[kW c l n i k,GF (i:=i) A0 A0 (EY A0)];exact kW c l n (i+1) ⟨k.1,A0,A0,k.2.2.2⟩
    .rw[GL,GL];omega
   first|refine s1 (D2 (D0 A0 A0)) rfl rfl rfl ?_|refine s1 (E5 _ _ _) rfl rfl rfl ?_
   refine s7 [.int .i64 _,.int .i64 _,C9 rQ _,.int .i64 _,.int .i64 _] rfl ?_;refine F0 ?_ ?_
   .rw[kW c l n i k,GF (i:=i) A0 A0 (EY A0)];exact kW c l n (i+1) ⟨k.1,A0,A0,k.2.2.2⟩
   .rw[GL,GL];omega
  .cases g
 .cases g
noncomputable def A1r:List LpE:=(153,([true,false,true,false],M4 prog gl n0 12 RA sB))::[]
def OB{G}(b:R0 G):e9 prog G gl A1r:=.cons func153 A3T A3S (XE b) .nil
def mkL:List (Int×Int):=[(768,879),(1155,1161),(1425,1469),(1552,1562),(1611,1631),(6832,6911),(7616,7679),(8203,8207),(8400,8447),(65024,65039),(65056,65071)]
def HQ(b:0<=i)(c:i<11):([768,1155,1425,1552,1611,6832,7616,8203,8400,65024,65056]:List Int).getD i.toNat 0=(mkL.getD i.toNat default).1/\([879,1161,1469,1562,1631,6911,7679,8207,8447,65039,65071]:List Int).getD i.toNat 0=(mkL.getD i.toNat default).2:=by
 have:∀ n:Nat,n<11->([768,1155,1425,1552,1611,6832,7616,8203,8400,65024,65056]:List Int).getD n 0=(mkL.getD n default).1/\([879,1161,1469,1562,1631,6911,7679,8207,8447,65039,65071]:List Int).getD n 0=(mkL.getD n default).2:=C8;exact this _ A0
def yV:List U->Option (Nat×List U)
 | [.int .i64 c,.int .i64 i]=>if 0<=i/\i<=11 then w5 (bU ((mkL.drop i.toNat).any (inB c))) [] (fun _=>[])else none
 | _=>none
def kX(c:Int)(i:Int)(b:0<=i/\i<=11):yV [.int .i64 c,.int .i64 i]=w5 (bU ((mkL.drop i.toNat).any (inB c))) [] (fun _=>[]):=B0 b
def XG:U5:=⟨[(0,h 0 3),(7,.slice (some ⟨3,0,none⟩) 11 11),(8,.int .i64 (11)),(9,h 1 3)],[],2,[⟨.exit 0,[],[],0⟩,⟨.ret,[(4,.bool true)],[],0⟩]⟩
noncomputable def XH:Code:=(f153.body).getD .skip
noncomputable def A3U:Code:=match H8 [true,false,true,false] XH with|some (.loop x)=>x|_=>.skip
def A3Z:f153.body=some XH:=rfl
def A3W:H8 [true,false,true,false] XH=some (.loop A3U):=G4
def jL(a0:Nat)(b:Nat)(a2:Int)(d c:Tr):Tr:=.lt 8 (.bin .lss) [h a0 3,jI a2]<|.br b d c
def A3V:Tr:=jL 1 2 11 (.lt 8 (.inb) [h 1 3,jI 11]<|.br 3 (.lt 3 (.sel) [h 1 3,jI 768,jI 1155,jI 1425,jI 1552,jI 1611,jI 6832,jI 7616,jI 8203,jI 8400,jI 65024,jI 65056]<|.lt 3 (.sel) [h 1 3,jI 879,jI 1161,jI 1469,jI 1562,jI 1631,jI 6911,jI 7679,jI 8207,jI 8447,jI 65039,jI 65071]<|jM 0 4 6 (.lt 8 (.bin .leq) [h 0 3,h 5 3]<|.br 7 (I0 1) (.lt 3 (.bin .add) [h 1 3,jI 1]<|.ret [jI (-1),h 0 3,h 8 3])) (.lt 3 (.bin .add) [h 1 3,jI 1]<|.ret [jI (-1),h 0 3,h 7 3])) (.no)) (I0 0)
def A3X:List U->Nat
 | [.int .i64 c,.int .i64 i]=>(11-i).toNat
 | _=>0
def GM(c:Int)(i:Int):A3X [.int .i64 c,.int .i64 i]=(11-i).toNat:=rfl
def A3Y{G}(g:R0 G):∀ (E:Nat->U) (base:Nat),@N6 ⟨E,G⟩ prog base gl f153.ntmps A3U (M4 prog gl n0 11 XG yV):=by
 refine W8 (C:=cx L0 A1r) (dep:=60) (f:=153) (n0:=n0) (nB:=11) (H0:=H0) A3X A3V (cxg (OJ g) (OB g)) g func153 A3Z A3W G4 G4 G4 ?_;intro us d outs b;have l:=b;unfold yV at b;split at b
 .skip;rename_i c i;split at b
  .rename_i k;clear b l;refine⟨rfl,?_⟩;unfold A3V;refine s0 (.cons 1 _ (.cons 0 _ (.nil))) rfl (by simp[Ev.ok,Ev.len]) ?_;refine s1 (J6 _ _ _) rfl rfl rfl ?_;refine s5 rfl (fun g0=>?_) fun g0=>?_
   .refine s7 [.int .i64 _] rfl ?_;refine D3 (d:=0) ?_;rw[kX c i k,JH (by show 11<=i;omega)];rfl
   refine s1 (QI _ _ _ _) rfl rfl rfl ?_;refine s5 rfl (fun g1=>?_) fun g1=>?_
   .refine s8 ?_;first|omega
   refine s1 (tZ [768,1155,1425,1552,1611,6832,7616,8203,8400,65024,65056] A0 (by show _<((11:Nat):Int);omega)) rfl rfl rfl ?_;refine s1 (tZ [879,1161,1469,1562,1631,6911,7679,8207,8447,65039,65071] A0 (by show _<((11:Nat):Int);omega)) rfl rfl rfl ?_;refine s1 (O1 _ _ _) rfl rfl rfl ?_;refine s4 rfl (fun g2=>?_) fun g2=>?_
   .refine s1 (bM _ _ _) rfl rfl rfl ?_;refine s4 rfl (fun g3=>?_) fun g3=>?_
    .refine s7 [.int .i64 _] rfl ?_;refine D3 (d:=1) ?_;have q:=HQ (i:=i) A0 A0;rw[kX c i k,A1k (i:=i) A0 (by show i<11;omega) (A0o A0 A0)];rfl
    first|refine s1 (D2 (D0 A0 A0)) rfl rfl rfl ?_|refine s1 (E5 _ _ _) rfl rfl rfl ?_
    refine s7 [.int .i64 _,.int .i64 _,.int .i64 _] rfl ?_;refine F0 ?_ ?_
    .rw[kX c i k,GF (i:=i) A0 (by show i<11;omega) (EY (by have q:=HQ (i:=i) A0 A0;omega))];exact kX c (i+1) ⟨A0,A0⟩
    .rw[GM,GM];omega
   first|refine s1 (D2 (D0 A0 A0)) rfl rfl rfl ?_|refine s1 (E5 _ _ _) rfl rfl rfl ?_
   refine s7 [.int .i64 _,.int .i64 _,.int .i64 _] rfl ?_;refine F0 ?_ ?_
   .rw[kX c i k,GF (i:=i) A0 (by show i<11;omega) (EY (by have q:=HQ (i:=i) A0 A0;omega))];exact kX c (i+1) ⟨A0,A0⟩
   .rw[GM,GM];omega
  .cases b
 .cases b
noncomputable def A1s:List LpE:=(153,([true,false,true,false],orL (M4 prog gl n0 11 XG yV) (M4 prog gl n0 12 RA sB)))::A1r
def OC{G}(b:R0 G):e9 prog G gl A1s:=.cons func153 A3Z A3W (fun E base=>@N6.or ⟨E,G⟩ _ _ _ _ _ _ _ (A3Y b E base) ((XE b) E base)) (OB b)
def wdL:List (Int×Int):=[(4352,4447),(11904,12350),(12353,19903),(19968,42191),(44032,55203),(63744,64255),(65072,65135),(65280,65376),(65504,65510),(127744,128591),(128640,128767),(129280,129535),(131072,262141)]
def GO(b:0<=i)(c:i<13):([4352,11904,12353,19968,44032,63744,65072,65280,65504,127744,128640,129280,131072]:List Int).getD i.toNat 0=(wdL.getD i.toNat default).1/\([4447,12350,19903,42191,55203,64255,65135,65376,65510,128591,128767,129535,262141]:List Int).getD i.toNat 0=(wdL.getD i.toNat default).2:=by
 have:∀ n:Nat,n<13->([4352,11904,12353,19968,44032,63744,65072,65280,65504,127744,128640,129280,131072]:List Int).getD n 0=(wdL.getD n default).1/\([4447,12350,19903,42191,55203,64255,65135,65376,65510,128591,128767,129535,262141]:List Int).getD n 0=(wdL.getD n default).2:=C8;exact this _ A0
def DM:List U->Option (Nat×List U)
 | [.int .i64 c,.int .i64 i]=>if 0<=i/\i<=13 then w5 (bU ((wdL.drop i.toNat).any (inB c))) [] (fun _=>[])else none
 | _=>none
def kV(c:Int)(i:Int)(b:0<=i/\i<=13):DM [.int .i64 c,.int .i64 i]=w5 (bU ((wdL.drop i.toNat).any (inB c))) [] (fun _=>[]):=B0 b
def A3P:U5:=⟨[(0,h 0 3),(7,.slice (some ⟨4,0,none⟩) 13 13),(8,.int .i64 (13)),(9,h 1 3)],[],2,[⟨.exit 0,[],[],0⟩,⟨.ret,[(4,.bool true)],[],0⟩]⟩
noncomputable def XB:Code:=(f153.body).getD .skip
noncomputable def A3K:Code:=match H8 [true,false,true,false] XB with|some (.loop x)=>x|_=>.skip
def A3O:f153.body=some XB:=rfl
def A3M:H8 [true,false,true,false] XB=some (.loop A3K):=G4
def A3L:Tr:=jL 1 2 13 (.lt 8 (.inb) [h 1 3,jI 13]<|.br 3 (.lt 3 (.sel) [h 1 3,jI 4352,jI 11904,jI 12353,jI 19968,jI 44032,jI 63744,jI 65072,jI 65280,jI 65504,jI 127744,jI 128640,jI 129280,jI 131072]<|.lt 3 (.sel) [h 1 3,jI 4447,jI 12350,jI 19903,jI 42191,jI 55203,jI 64255,jI 65135,jI 65376,jI 65510,jI 128591,jI 128767,jI 129535,jI 262141]<|jM 0 4 6 (.lt 8 (.bin .leq) [h 0 3,h 5 3]<|.br 7 (I0 1) (.lt 3 (.bin .add) [h 1 3,jI 1]<|.ret [jI (-1),h 0 3,h 8 3])) (.lt 3 (.bin .add) [h 1 3,jI 1]<|.ret [jI (-1),h 0 3,h 7 3])) (.no)) (I0 0)
def A3N:List U->Nat
 | [.int .i64 c,.int .i64 i]=>(13-i).toNat
 | _=>0
def GK(c:Int)(i:Int):A3N [.int .i64 c,.int .i64 i]=(13-i).toNat:=rfl
def A6O{G}(g:R0 G):∀ (E:Nat->U) (base:Nat),@N6 ⟨E,G⟩ prog base gl f153.ntmps A3K (M4 prog gl n0 11 A3P DM):=by
 refine W8 (C:=cx L0 A1s) (dep:=60) (f:=153) (n0:=n0) (nB:=11) (H0:=H0) A3N A3L (cxg (OJ g) (OC g)) g func153 A3O A3M G4 G4 G4 ?_;intro us d outs b;have l:=b;unfold DM at b;split at b
 .skip;rename_i c i;split at b
  .rename_i k;clear b l;refine⟨rfl,?_⟩;unfold A3L;refine s0 (.cons 1 _ (.cons 0 _ (.nil))) rfl (by simp[Ev.ok,Ev.len]) ?_;refine s1 (J6 _ _ _) rfl rfl rfl ?_;refine s5 rfl (fun g0=>?_) fun g0=>?_
   .refine s7 [.int .i64 _] rfl ?_;refine D3 (d:=0) ?_;rw[kV c i k,JH (by show 13<=i;omega)];rfl
   refine s1 (QI _ _ _ _) rfl rfl rfl ?_;refine s5 rfl (fun g1=>?_) fun g1=>?_
   .refine s8 ?_;first|omega
   refine s1 (tZ [4352,11904,12353,19968,44032,63744,65072,65280,65504,127744,128640,129280,131072] A0 (by show _<((13:Nat):Int);omega)) rfl rfl rfl ?_;refine s1 (tZ [4447,12350,19903,42191,55203,64255,65135,65376,65510,128591,128767,129535,262141] A0 (by show _<((13:Nat):Int);omega)) rfl rfl rfl ?_;refine s1 (O1 _ _ _) rfl rfl rfl ?_;refine s4 rfl (fun g2=>?_) fun g2=>?_
   .refine s1 (bM _ _ _) rfl rfl rfl ?_;refine s4 rfl (fun g3=>?_) fun g3=>?_
    .refine s7 [.int .i64 _] rfl ?_;refine D3 (d:=1) ?_;have q:=GO (i:=i) A0 A0;rw[kV c i k,A1k (i:=i) A0 (by show i<13;omega) (A0o A0 A0)];rfl
    first|refine s1 (D2 (D0 A0 A0)) rfl rfl rfl ?_|refine s1 (E5 _ _ _) rfl rfl rfl ?_
    refine s7 [.int .i64 _,.int .i64 _,.int .i64 _] rfl ?_;refine F0 ?_ ?_
    .rw[kV c i k,GF (i:=i) A0 (by show i<13;omega) (EY (by have q:=GO (i:=i) A0 A0;omega))];exact kV c (i+1) ⟨A0,A0⟩
    .rw[GK,GK];omega
   first|refine s1 (D2 (D0 A0 A0)) rfl rfl rfl ?_|refine s1 (E5 _ _ _) rfl rfl rfl ?_
   refine s7 [.int .i64 _,.int .i64 _,.int .i64 _] rfl ?_;refine F0 ?_ ?_
   .rw[kV c i k,GF (i:=i) A0 (by show i<13;omega) (EY (by have q:=GO (i:=i) A0 A0;omega))];exact kV c (i+1) ⟨A0,A0⟩
   .rw[GK,GK];omega
  .cases b
 .cases b
noncomputable def A5H:List LpE:=(153,([true,false,true,false],orL (M4 prog gl n0 11 A3P DM) (orL (M4 prog gl n0 11 XG yV) (M4 prog gl n0 12 RA sB))))::A1s
def A1q{G}(b:R0 G):e9 prog G gl A5H:=.cons func153 A3O A3M (fun E base=>@N6.or ⟨E,G⟩ _ _ _ _ _ _ _ (A6O b E base) ((fun E base=>@N6.or ⟨E,G⟩ _ _ _ _ _ _ _ (A3Y b E base) ((XE b) E base)) E base)) (OC b)
def A25{b:Bool}(h:bU b=some u):b=true:=by cases b<;>first|rfl|cases h
def A26{b:Bool}(h:bU b=none):b=false:=by cases b<;>first|rfl|cases h
def H5(c:Int):((el (some ([(0,31),(127,159)]:List (Int×Int)))).drop (0:Int).toNat).any (inB c)=true↔((0<=c/\c<=31)∨(127<=c/\c<=159)):=by
 show List.any _ _=true↔_;simp[F2,inB]
def M6(c:Int):(mkL.drop (0:Int).toNat).any (inB c)=true↔inM c:=by
 unfold inM;show List.any mkL _=true↔_;simp[mkL,inB]
def U4(c:Int):(wdL.drop (0:Int).toNat).any (inB c)=true↔inW c:=by
 unfold inW;show List.any wdL _=true↔_;simp[wdL,inB]
def fJ{b:Bool}(h:bU b=some u)(e:b=true↔p):p:=e.1 (A25 h)
def R6{b:Bool}(h:bU b=none)(e:b=true↔p):¬p:=fun q=>by have:=e.2 q;rw[A26 h]at this;cases this
def yW:List U->Option (Nat×List U)
 | [.int .i64 c]=>some (0,[.int .i64 (sC c)])
 | _=>none
def xN(c:Int):yW [.int .i64 c]=some (0,[.int .i64 (sC c)]):=rfl
def yY(a0:Nat)(b c:Tr):Tr:=.lt 8 (.un .not) [h a0 8]<|.br (a0+1) b c
def cD(a0:Nat)(b:Nat)(a2:Int)(d c:Tr):Tr:=.lt 8 (.bin .geq) [h a0 3,jI a2]<|.br b d c
def A3a:Tr:=cD 0 1 0 (.lt 8 (.bin .leq) [h 0 3,jI 1114111]<|.br 2 (.lt 3 (.bin .shr) [h 0 3,.int .u64 (11)]<|.lt 8 (.bin .neq) [h 3 3,jI 27]<|yY 4 (I0 (-1)) (.dt 12 (.mk 2) [jI 0,jI 31,jI 127,jI 159]<|.lp sB [h 0 3,h 6 12,jI 2,jI 0] 0 0 (jL 0 7 768 (I0 1) (.lp yV [h 0 3,jI 0] 0 0 (.lp DM [h 0 3,jI 0] 0 0 (I0 1) (.lp DM [h 0 3,jI 0] 1 0 (I0 2) (.no))) (.lp yV [h 0 3,jI 0] 1 0 (I0 0) (.no)))) (.lp sB [h 0 3,h 6 12,jI 2,jI 0] 1 0 (I0 (-1)) (.no)))) (I0 (-1))) (I0 (-1))
def A3b{G}(b:R0 G):t6 prog G 91 [.s 3] yW [.s 3]:=by
 refine M5 (C:=cx L0 A5H) (d:=60) A3a (cxg (OJ b) (A1q b)) b ⟨f91,_,func91,rfl⟩ G4 G4 ?_;intro us outs f;unfold yW at f;split at f
 .skip;rename_i c;cases f;unfold A3a;refine s0 (.cons 0 _ (.nil)) rfl (by simp[Ev.ok,Ev.len]) ?_;refine s1 (O1 _ _ _) rfl rfl rfl ?_;refine s5 rfl (fun g0=>?_) fun g0=>?_
  .refine s7 [.int .i64 _] rfl ?_;refine D8 (fun z=>[U.int .i64 z]) ?_;symm;first|exact dZ (by unfold okU;omega)|exact dZ (by have q:=fJ ‹_› (H5 c);omega)|exact vX (by have q:=R6 ‹_› (H5 c);unfold okU;omega) (fJ ‹_› (M6 c))|exact vW (by have q:=R6 ‹_› (H5 c);unfold okU;omega) (R6 ‹_› (M6 c)) (fJ ‹_› (U4 c))|exact eW (by have q:=R6 ‹_› (H5 c);unfold okU;omega) (R6 ‹_› (M6 c)) (R6 ‹_› (U4 c))|exact eW (by have q:=R6 ‹_› (H5 c);unfold okU;omega) (by unfold inM;omega) (by unfold inW;omega)
  refine s1 (bM _ _ _) rfl rfl rfl ?_;refine s5 rfl (fun g1=>?_) fun g1=>?_
  .refine s7 [.int .i64 _] rfl ?_;refine D8 (fun z=>[U.int .i64 z]) ?_;symm;first|exact dZ (by unfold okU;omega)|exact dZ (by have q:=fJ ‹_› (H5 c);omega)|exact vX (by have q:=R6 ‹_› (H5 c);unfold okU;omega) (fJ ‹_› (M6 c))|exact vW (by have q:=R6 ‹_› (H5 c);unfold okU;omega) (R6 ‹_› (M6 c)) (fJ ‹_› (U4 c))|exact eW (by have q:=R6 ‹_› (H5 c);unfold okU;omega) (R6 ‹_› (M6 c)) (R6 ‹_› (U4 c))|exact eW (by have q:=R6 ‹_› (H5 c);unfold okU;omega) (by unfold inM;omega) (by unfold inW;omega)
  refine s1 (cV 2048 C8 C8) rfl rfl rfl ?_;refine s1 (L6 _ _ _) rfl rfl rfl ?_;refine s1 (bG _) rfl rfl rfl ?_;refine s4 rfl (fun g2=>?_) fun g2=>?_
  .refine s7 [.int .i64 _] rfl ?_;refine D8 (fun z=>[U.int .i64 z]) ?_;symm;first|exact dZ (by unfold okU;omega)|exact dZ (by have q:=fJ ‹_› (H5 c);omega)|exact vX (by have q:=R6 ‹_› (H5 c);unfold okU;omega) (fJ ‹_› (M6 c))|exact vW (by have q:=R6 ‹_› (H5 c);unfold okU;omega) (R6 ‹_› (M6 c)) (fJ ‹_› (U4 c))|exact eW (by have q:=R6 ‹_› (H5 c);unfold okU;omega) (R6 ‹_› (M6 c)) (R6 ‹_› (U4 c))|exact eW (by have q:=R6 ‹_› (H5 c);unfold okU;omega) (by unfold inM;omega) (by unfold inW;omega)
  refine s2 (r:=rQ) (jO [(_,_),(_,_)] rfl C8 rfl) rfl rfl ?_;refine s6 (kW _ _ _ 0 ⟨rfl,C8,C8,C8⟩) rfl (fun _=>rfl) (fun g3=>?_) (fun v3 g3=>?_)
  .show Tr.sav _ _ _;refine s1 (J6 _ _ _) rfl rfl rfl ?_;refine s4 rfl (fun g4=>?_) fun g4=>?_
   .refine s7 [.int .i64 _] rfl ?_;refine D8 (fun z=>[U.int .i64 z]) ?_;symm;first|exact dZ (by unfold okU;omega)|exact dZ (by have q:=fJ ‹_› (H5 c);omega)|exact vX (by have q:=R6 ‹_› (H5 c);unfold okU;omega) (fJ ‹_› (M6 c))|exact vW (by have q:=R6 ‹_› (H5 c);unfold okU;omega) (R6 ‹_› (M6 c)) (fJ ‹_› (U4 c))|exact eW (by have q:=R6 ‹_› (H5 c);unfold okU;omega) (R6 ‹_› (M6 c)) (R6 ‹_› (U4 c))|exact eW (by have q:=R6 ‹_› (H5 c);unfold okU;omega) (by unfold inM;omega) (by unfold inW;omega)
   refine s6 (kX _ 0 ⟨C8,C8⟩) rfl (fun _=>rfl) (fun g5=>?_) (fun v5 g5=>?_)
   .show Tr.sav _ _ _;refine s6 (kV _ 0 ⟨C8,C8⟩) rfl (fun _=>rfl) (fun g6=>?_) (fun v6 g6=>?_)
    .show Tr.sav _ _ _;refine s7 [.int .i64 _] rfl ?_;refine D8 (fun z=>[U.int .i64 z]) ?_;symm;first|exact dZ (by unfold okU;omega)|exact dZ (by have q:=fJ ‹_› (H5 c);omega)|exact vX (by have q:=R6 ‹_› (H5 c);unfold okU;omega) (fJ ‹_› (M6 c))|exact vW (by have q:=R6 ‹_› (H5 c);unfold okU;omega) (R6 ‹_› (M6 c)) (fJ ‹_› (U4 c))|exact eW (by have q:=R6 ‹_› (H5 c);unfold okU;omega) (R6 ‹_› (M6 c)) (R6 ‹_› (U4 c))|exact eW (by have q:=R6 ‹_› (H5 c);unfold okU;omega) (by unfold inM;omega) (by unfold inW;omega)
    show Tr.sav _ _ _;refine s7 [.int .i64 _] rfl ?_;refine D8 (fun z=>[U.int .i64 z]) ?_;symm;first|exact dZ (by unfold okU;omega)|exact dZ (by have q:=fJ ‹_› (H5 c);omega)|exact vX (by have q:=R6 ‹_› (H5 c);unfold okU;omega) (fJ ‹_› (M6 c))|exact vW (by have q:=R6 ‹_› (H5 c);unfold okU;omega) (R6 ‹_› (M6 c)) (fJ ‹_› (U4 c))|exact eW (by have q:=R6 ‹_› (H5 c);unfold okU;omega) (R6 ‹_› (M6 c)) (R6 ‹_› (U4 c))|exact eW (by have q:=R6 ‹_› (H5 c);unfold okU;omega) (by unfold inM;omega) (by unfold inW;omega)
   show Tr.sav _ _ _;refine s7 [.int .i64 _] rfl ?_;refine D8 (fun z=>[U.int .i64 z]) ?_;symm;first|exact dZ (by unfold okU;omega)|exact dZ (by have q:=fJ ‹_› (H5 c);omega)|exact vX (by have q:=R6 ‹_› (H5 c);unfold okU;omega) (fJ ‹_› (M6 c))|exact vW (by have q:=R6 ‹_› (H5 c);unfold okU;omega) (R6 ‹_› (M6 c)) (fJ ‹_› (U4 c))|exact eW (by have q:=R6 ‹_› (H5 c);unfold okU;omega) (R6 ‹_› (M6 c)) (R6 ‹_› (U4 c))|exact eW (by have q:=R6 ‹_› (H5 c);unfold okU;omega) (by unfold inM;omega) (by unfold inW;omega)
  show Tr.sav _ _ _;refine s7 [.int .i64 _] rfl ?_;refine D8 (fun z=>[U.int .i64 z]) ?_;symm;first|exact dZ (by unfold okU;omega)|exact dZ (by have q:=fJ ‹_› (H5 c);omega)|exact vX (by have q:=R6 ‹_› (H5 c);unfold okU;omega) (fJ ‹_› (M6 c))|exact vW (by have q:=R6 ‹_› (H5 c);unfold okU;omega) (R6 ‹_› (M6 c)) (fJ ‹_› (U4 c))|exact eW (by have q:=R6 ‹_› (H5 c);unfold okU;omega) (R6 ‹_› (M6 c)) (R6 ‹_› (U4 c))|exact eW (by have q:=R6 ‹_› (H5 c);unfold okU;omega) (by unfold inM;omega) (by unfold inW;omega)
 .cases f
noncomputable def A5S:aY:=⟨_,fun b=>.cons (A3b b) (OJ b)⟩
def A28(x:BitVec 64):x &&& ~~~(255#64)=(x >>> 8) <<< 8:=by
 have h:∀ i,i<64->(255#64).getLsbD i=decide (i<8):=C8;apply BitVec.eq_of_getLsbD_eq;intro i hi;rw[BitVec.getLsbD_and,BitVec.getLsbD_not,h i hi,BitVec.getLsbD_shiftLeft,BitVec.getLsbD_ushiftRight];by_cases b:i<8
 .simp[b]
 .simp[b,hi,show 8+(i-8)=i by omega]
def A2m(k : -9223372036854775808<=a)(l:a<=9223372036854775807):evU (.bin .andNot) [.int .i64 a,.int .i64 255]=.int .i64 (a-a%256):=by
 rw[VX];have e:(BitVec.ofInt IntKind.i64.bits a &&& ~~~BitVec.ofInt IntKind.i64.bits 255).toNat=((BitVec.ofInt 64 a >>> 8) <<< 8).toNat:=D8 BitVec.toNat (A28 (BitVec.ofInt 64 a));rw[e];have d:((BitVec.ofInt 64 a >>> 8) <<< 8).toNat=(BitVec.ofInt 64 a).toNat / 256*256:=by
  rw[BitVec.toNat_shiftLeft,BitVec.toNat_ushiftRight,Nat.shiftLeft_eq,Nat.shiftRight_eq_div_pow]
  have:=(BitVec.ofInt 64 a).isLt;exact dR A0
 rw[d,hP];refine D8 (U.int .i64) ?_;have c:((2 ^ 64:Nat):Int)=18446744073709551616:=C8;rw[c];generalize g:(a%18446744073709551616).toNat=A;have b:(A:Int)=a%18446744073709551616:=A0;have f:((A / 256*256:Nat):Int)=a%18446744073709551616-a%256:=A0;rw[f];simp only[IntKind.wrap,IntKind.bits,IntKind.signed];simp;omega
def gS(k n:Int):Int:=if(k=0/\n=0)∨(k=1/\0<=n/\n<=255)∨(k=2/\0<=n/\n<=16777215)then 0 else 130
def vO:List U->Option (Nat×List U)
 | [.int .i64 k,.int .i64 n]=>some (0,[.int .i64 (gS k n)])
 | _=>none
def BL(k:Int)(n:Int):vO [.int .i64 k,.int .i64 n]=some (0,[.int .i64 (gS k n)]):=rfl
def A1O:Tr:=jL 0 2 0 (I0 130) (cD 0 3 3 (I0 130) (jL 1 4 0 (I0 130) (.lt 8 (.inb) [h 0 3,jI 3]<|.br 5 (.lt 3 (.sel) [h 0 3,jI 0,jI 255,jI 16777215]<|.lt 8 (.bin .gtr) [h 1 3,h 6 3]<|.br 7 (I0 130) (I0 0)) (.no))))
def A6F{G}(b:R0 G):t6 prog G 146 [.a [3,3]] vO [.s 3]:=by
 refine M5 (d:=60) A1O (cxg (A5S.2 b) .nil) b ⟨f146,_,func146,rfl⟩ G4 G4 ?_;intro us outs c;unfold vO at c;split at c
 .skip;rename_i k n;cases c;unfold A1O;refine s0 (.cons 1 _ (.cons 0 _ (.nil))) rfl (by simp[Ev.ok,Ev.len]) ?_;refine s1 (J6 _ _ _) rfl rfl rfl ?_;refine s4 rfl (fun g0=>?_) fun g0=>?_
  .refine s7 [.int .i64 _] rfl ?_;simp only[gS];first|(rw[B0 A0];done)|(rw[A9 A0];done)|((obtain rfl|rfl|rfl:k=0∨k=1∨k=2:=A0)<;>simp at *<;>first|(rw[B0 A0];done)|(rw[A9 A0];done)|omega)
  refine s1 (O1 _ _ _) rfl rfl rfl ?_;refine s4 rfl (fun g1=>?_) fun g1=>?_
  .refine s7 [.int .i64 _] rfl ?_;simp only[gS];first|(rw[B0 A0];done)|(rw[A9 A0];done)|((obtain rfl|rfl|rfl:k=0∨k=1∨k=2:=A0)<;>simp at *<;>first|(rw[B0 A0];done)|(rw[A9 A0];done)|omega)
  refine s1 (J6 _ _ _) rfl rfl rfl ?_;refine s4 rfl (fun g2=>?_) fun g2=>?_
  .refine s7 [.int .i64 _] rfl ?_;simp only[gS];first|(rw[B0 A0];done)|(rw[A9 A0];done)|((obtain rfl|rfl|rfl:k=0∨k=1∨k=2:=A0)<;>simp at *<;>first|(rw[B0 A0];done)|(rw[A9 A0];done)|omega)
  refine s1 (QI _ _ _ _) rfl rfl rfl ?_;refine s5 rfl (fun g3=>?_) fun g3=>?_
  .refine s8 ?_;first|omega|(simp_all;done)|(simp_all;omega)
  refine s1 (tZ [0,255,16777215] A0 (by show _<((3:Nat):Int);omega)) rfl rfl rfl ?_;refine s1 (jP _ _ _) rfl rfl rfl ?_;refine s4 rfl (fun g4=>?_) fun g4=>?_
  .refine s7 [.int .i64 _] rfl ?_;simp only[gS];first|(rw[B0 A0];done)|(rw[A9 A0];done)|((obtain rfl|rfl|rfl:k=0∨k=1∨k=2:=A0)<;>simp at *<;>first|(rw[B0 A0];done)|(rw[A9 A0];done)|omega)
  refine s7 [.int .i64 _] rfl ?_;simp only[gS];first|(rw[B0 A0];done)|(rw[A9 A0];done)|((obtain rfl|rfl|rfl:k=0∨k=1∨k=2:=A0)<;>simp at *<;>first|(rw[B0 A0];done)|(rw[A9 A0];done)|omega)
 .cases c
noncomputable def A6K:aY:=⟨_,fun b=>.cons (A6F b) (A5S.2 b)⟩
def uL(a u fk fn bk bn lk ln:Int):Int:=if a<0∨255<a∨u<0∨5<u then 140 else if gS fk fn≠0 then gS fk fn else if gS bk bn≠0 then gS bk bn else gS lk ln
def qU{u:Int}(h:a<0∨255<a∨u<0∨5<u):uL a u fk fn bk bn lk ln=140:=B0 h
def qT{u:Int}(h:¬(a<0∨255<a∨u<0∨5<u))(b:gS fk fn≠0):uL a u fk fn bk bn lk ln=gS fk fn:=by unfold uL;rw[A9 h,B0 b]
def qS{u:Int}(h:¬(a<0∨255<a∨u<0∨5<u))(b:¬gS fk fn≠0)(h3:gS bk bn≠0):uL a u fk fn bk bn lk ln=gS bk bn:=by unfold uL;rw[A9 h,A9 b,B0 h3]
def nE{u:Int}(h:¬(a<0∨255<a∨u<0∨5<u))(b:¬gS fk fn≠0)(h3:¬gS bk bn≠0):uL a u fk fn bk bn lk ln=gS lk ln:=by unfold uL;rw[A9 h,A9 b,A9 h3]
def qV{u:Int}(h:¬(a<0∨255<a∨u<0∨5<u))(c:¬gS fk fn≠0)(h3:¬gS bk bn≠0)(b:¬gS lk ln≠0):uL a u fk fn bk bn lk ln=0:=by rw[nE h c h3];exact Q6.1 b
def KI:List U->Option (Nat×List U)
 | [.int .i64 a,.int .i64 u,.int .i64 fk,.int .i64 fn,.int .i64 bk,.int .i64 bn,.int .i64 lk,.int .i64 ln]=>if(-9223372036854775808<=a/\a<=9223372036854775807)then some (0,[.int .i64 (uL a u fk fn bk bn lk ln)])else none
 | _=>none
def lI(a:Int)(u:Int)(fk:Int)(fn:Int)(bk:Int)(bn:Int)(lk:Int)(ln:Int)(b:(-9223372036854775808<=a/\a<=9223372036854775807)):KI [.int .i64 a,.int .i64 u,.int .i64 fk,.int .i64 fn,.int .i64 bk,.int .i64 bn,.int .i64 lk,.int .i64 ln]=some (0,[.int .i64 (uL a u fk fn bk bn lk ln)]):=B0 b
def bH(a0:Nat)(d:Nat)(c b:Tr):Tr:=.lt 8 (.bin .neq) [h a0 3,jI 0]<|.br d c b
def nA(a0:Nat)(b:Nat)(a2:Int)(d c:Tr):Tr:=.lt 8 (.bin .gtr) [h a0 3,jI a2]<|.br b d c
def A38:Tr:=.lt 3 (.bin .andNot) [h 0 3,jI 255]<|bH 8 9 (I0 140) (jL 1 10 0 (I0 140) (nA 1 11 5 (I0 140) (.fn vO [h 2 3,h 3 3] 1<|bH 12 13 (.ret [h 12 3]) (.fn vO [h 4 3,h 5 3] 1<|bH 14 15 (.ret [h 14 3]) (.fn vO [h 6 3,h 7 3] 1<|bH 16 17 (.ret [h 16 3]) (I0 0))))))
def A6U{G}(c:R0 G):t6 prog G 87 [.a [3,3,3,3,3,3,3,3]] KI [.s 3]:=by
 refine M5 (d:=60) A38 (cxg (A6K.2 c) .nil) c ⟨f87,_,func87,rfl⟩ G4 G4 ?_;intro us outs b;unfold KI at b;split at b
 .skip;rename_i a u fk fn bk bn lk ln;split at b
  .rename_i f;cases b;unfold A38;refine s0 (.cons 7 _ (.cons 6 _ (.cons 5 _ (.cons 4 _ (.cons 3 _ (.cons 2 _ (.cons 1 _ (.cons 0 _ (.nil))))))))) rfl (by simp[Ev.ok,Ev.len]) ?_;refine s1 (A2m f.1 f.2) rfl rfl rfl ?_;refine s1 (L6 _ _ _) rfl rfl rfl ?_;refine s4 rfl (fun g0=>?_) fun g0=>?_
   .refine s7 [.int .i64 _] rfl ?_;refine D8 (fun z=>[U.int .i64 z]) ?_;symm;first|exact qU A0|exact qT A0 ‹_›|exact qS A0 ‹_› ‹_›|exact nE A0 ‹_› ‹_›|exact qV A0 ‹_› ‹_› ‹_›
   refine s1 (J6 _ _ _) rfl rfl rfl ?_;refine s4 rfl (fun g1=>?_) fun g1=>?_
   .refine s7 [.int .i64 _] rfl ?_;refine D8 (fun z=>[U.int .i64 z]) ?_;symm;first|exact qU A0|exact qT A0 ‹_›|exact qS A0 ‹_› ‹_›|exact nE A0 ‹_› ‹_›|exact qV A0 ‹_› ‹_› ‹_›
   refine s1 (jP _ _ _) rfl rfl rfl ?_;refine s4 rfl (fun g2=>?_) fun g2=>?_
   .refine s7 [.int .i64 _] rfl ?_;refine D8 (fun z=>[U.int .i64 z]) ?_;symm;first|exact qU A0|exact qT A0 ‹_›|exact qS A0 ‹_› ‹_›|exact nE A0 ‹_› ‹_›|exact qV A0 ‹_› ‹_› ‹_›
   refine s31 (BL _ _) rfl ?_;refine s1 (L6 _ _ _) rfl rfl rfl ?_;refine s4 rfl (fun g3=>?_) fun g3=>?_
   .refine s7 [.int .i64 _] rfl ?_;refine D8 (fun z=>[U.int .i64 z]) ?_;symm;first|exact qU A0|exact qT A0 ‹_›|exact qS A0 ‹_› ‹_›|exact nE A0 ‹_› ‹_›|exact qV A0 ‹_› ‹_› ‹_›
   refine s31 (BL _ _) rfl ?_;refine s1 (L6 _ _ _) rfl rfl rfl ?_;refine s4 rfl (fun g4=>?_) fun g4=>?_
   .refine s7 [.int .i64 _] rfl ?_;refine D8 (fun z=>[U.int .i64 z]) ?_;symm;first|exact qU A0|exact qT A0 ‹_›|exact qS A0 ‹_› ‹_›|exact nE A0 ‹_› ‹_›|exact qV A0 ‹_› ‹_› ‹_›
   refine s31 (BL _ _) rfl ?_;refine s1 (L6 _ _ _) rfl rfl rfl ?_;refine s4 rfl (fun g5=>?_) fun g5=>?_
   .refine s7 [.int .i64 _] rfl ?_;refine D8 (fun z=>[U.int .i64 z]) ?_;symm;first|exact qU A0|exact qT A0 ‹_›|exact qS A0 ‹_› ‹_›|exact nE A0 ‹_› ‹_›|exact qV A0 ‹_› ‹_› ‹_›
   refine s7 [.int .i64 _] rfl ?_;refine D8 (fun z=>[U.int .i64 z]) ?_;symm;first|exact qU A0|exact qT A0 ‹_›|exact qS A0 ‹_› ‹_›|exact nE A0 ‹_› ‹_›|exact qV A0 ‹_› ‹_› ‹_›
  .cases b
 .cases b
def S7(b m0 m1 wd:Int):Prop:=(b=0/\m0=0/\m1=0/\wd=2)∨(0<=wd/\wd<=1/\sC b=wd+1/\(m0=0∨sC m0=0)/\(m1=0∨(m0≠0/\sC m1=0)))
instance(b m0 m1 wd:Int):Decidable (S7 b m0 m1 wd):=by unfold S7;infer_instance
def DF(b m0 m1 wd at_ un fk fn bk bn lk ln:Int):Int:=if S7 b m0 m1 wd/\uL at_ un fk fn bk bn lk ln=0 then 0 else 221
def R4{b m0 m1 wd:Int}(h:S7 b m0 m1 wd)(c:uL at_ un fk fn bk bn lk ln=0):[U.int .i64 0]=[U.int .i64 (DF b m0 m1 wd at_ un fk fn bk bn lk ln)]:=by unfold DF;rw[B0 ⟨h,c⟩]
def X6{b m0 m1 wd:Int}(h:¬S7 b m0 m1 wd):[U.int .i64 221]=[U.int .i64 (DF b m0 m1 wd at_ un fk fn bk bn lk ln)]:=by unfold DF;rw[A9 (fun c=>h c.1)]
def X5{b m0 m1 wd:Int}(h:uL at_ un fk fn bk bn lk ln≠0):[U.int .i64 221]=[U.int .i64 (DF b m0 m1 wd at_ un fk fn bk bn lk ln)]:=by unfold DF;rw[A9 (fun c=>h c.2)]
noncomputable def A7m:aY:=⟨_,fun b=>(.cons (A3b b) (.cons (A6U b) .nil))⟩
def TS:List U->Option (Nat×List U)
 | [.int .i64 b,.int .i64 m0,.int .i64 m1,.int .i64 wd,.int .i64 at_,.int .i64 un,.int .i64 fk,.int .i64 fn,.int .i64 bk,.int .i64 bn,.int .i64 lk,.int .i64 ln]=>if(-9223372036854775808<=at_/\at_<=9223372036854775807)then some (0,[.int .i64 (DF b m0 m1 wd at_ un fk fn bk bn lk ln)])else none
 | _=>none
def A2x(b:Int)(m0:Int)(m1:Int)(wd:Int)(at_:Int)(un:Int)(fk:Int)(fn:Int)(bk:Int)(bn:Int)(lk:Int)(ln:Int)(c:(-9223372036854775808<=at_/\at_<=9223372036854775807)):TS [.int .i64 b,.int .i64 m0,.int .i64 m1,.int .i64 wd,.int .i64 at_,.int .i64 un,.int .i64 fk,.int .i64 fn,.int .i64 bk,.int .i64 bn,.int .i64 lk,.int .i64 ln]=some (0,[.int .i64 (DF b m0 m1 wd at_ un fk fn bk bn lk ln)]):=B0 c
def GT(a0:Nat)(b c:Tr):Tr:=.fn KI [h 4 3,h 5 3,h 6 3,h 7 3,h 8 3,h 9 3,h 10 3,h 11 3] 1<|.lt 8 (.bin .neq) [h a0 3,jI 0]<|.br (a0+1) b c
def xZ(a0:Nat)(b c:Tr):Tr:=.lt 8 (.bin .eql) [h 2 3,jI 0]<|.fn KI [h 4 3,h 5 3,h 6 3,h 7 3,h 8 3,h 9 3,h 10 3,h 11 3] 1<|.lt 8 (.bin .neq) [h a0 3,jI 0]<|.br (a0+1) b c
def i5(a0:Nat)(b:Nat)(a2:Nat)(d c:Tr):Tr:=.lt 8 (.bin .eql) [h a0 3,h b 3]<|.br a2 d c
def GU(a0:Int)(b:Nat)(a2:Nat)(a3:Int)(d c:Tr):Tr:=.lt 8 (.eqs) [h b 3,jI a3,h (b+1) 3,jI 0,h (b+2) 3,jI 0,h (b+3) 3,jI a0,h (b+4) 3,h (b+4) 3,h (b+5) 3,h (b+5) 3,h (b+6) 3,h (b+6) 3,h (b+7) 3,h (b+7) 3,h (b+8) 3,h (b+8) 3,h (b+9) 3,h (b+9) 3,h (b+10) 3,h (b+10) 3,h (b+11) 3,h (b+11) 3]<|.br a2 d c
def A4z:Tr:=GU 2 0 12 0 (GT 13 (I0 221) (I0 0)) (cD 3 13 0 (.lt 8 (.bin .leq) [h 3 3,jI 1]<|.br 14 (.fn yW [h 0 3] 1<|.lt 3 (.bin .add) [h 3 3,jI 1]<|i5 15 16 17 (bH 1 18 (.fn yW [h 1 3] 1<|bH 19 20 (I0 221) (.lt 8 (.bin .eql) [h 1 3,jI 0]<|bH 2 22 (.br 21 (I0 221) (.fn yW [h 2 3] 1<|bH 23 24 (I0 221) (xZ 26 (I0 221) (I0 0)))) (.br 21 (GT 23 (I0 221) (I0 0)) (xZ 24 (I0 221) (I0 0))))) (.lt 8 (.bin .eql) [h 1 3,jI 0]<|bH 2 20 (.br 19 (I0 221) (.fn yW [h 2 3] 1<|bH 21 22 (I0 221) (xZ 24 (I0 221) (I0 0)))) (.br 19 (GT 21 (I0 221) (I0 0)) (xZ 22 (I0 221) (I0 0))))) (I0 221)) (I0 221)) (I0 221))
def A40{G}(f:R0 G):t6 prog G 56 [.a [3,3,3,3,3,3,3,3,3,3,3,3]] TS [.s 3]:=by
 refine M5 (d:=60) A4z (cxg (A7m.2 f) .nil) f ⟨f56,_,func56,rfl⟩ G4 G4 ?_;intro us outs c;unfold TS at c;split at c
 .skip;rename_i b m0 m1 wd at_ un fk fn bk bn lk ln;split at c
  .rename_i g;cases c;unfold A4z;refine s0 (.cons 11 _ (.cons 10 _ (.cons 9 _ (.cons 8 _ (.cons 7 _ (.cons 6 _ (.cons 5 _ (.cons 4 _ (.cons 3 _ (.cons 2 _ (.cons 1 _ (.cons 0 _ (.nil))))))))))))) rfl (by simp[Ev.ok,Ev.len]) ?_;refine s1 rfl rfl rfl rfl ?_;first|refine s4 rfl (fun g0=>?_) (fun g0=>?_)|refine s4B rfl (fun g0=>?_) (fun g0=>?_)
   .have g0:(b=0/\m0=0/\m1=0/\wd=2):=by simpa using g0
    refine s31 (lI _ _ _ _ _ _ _ _ A0) rfl ?_;refine s1 (L6 _ _ _) rfl rfl rfl ?_;refine s4 rfl (fun g1=>?_) fun g1=>?_
    .refine s7 [.int .i64 _] rfl ?_;first|exact R4 (by unfold S7;omega) A0|exact X6 (by unfold S7;omega)|exact X5 A0
    refine s7 [.int .i64 _] rfl ?_;first|exact R4 (by unfold S7;omega) A0|exact X6 (by unfold S7;omega)|exact X5 A0
   have g0:¬(b=0/\m0=0/\m1=0/\wd=2):=by simpa using g0
   refine s1 (O1 _ _ _) rfl rfl rfl ?_;refine s5 rfl (fun g1=>?_) fun g1=>?_
   .refine s7 [.int .i64 _] rfl ?_;first|exact R4 (by unfold S7;omega) A0|exact X6 (by unfold S7;omega)|exact X5 A0
   refine s1 (bM _ _ _) rfl rfl rfl ?_;refine s5 rfl (fun g2=>?_) fun g2=>?_
   .refine s7 [.int .i64 _] rfl ?_;first|exact R4 (by unfold S7;omega) A0|exact X6 (by unfold S7;omega)|exact X5 A0
   refine s31 (xN _) rfl ?_;first|refine s1 (D2 (D0 A0 A0)) rfl rfl rfl ?_|refine s1 (E5 _ _ _) rfl rfl rfl ?_
   refine s1 (P7 _ _ _) rfl rfl rfl ?_;refine s5 rfl (fun g3=>?_) fun g3=>?_
   .refine s7 [.int .i64 _] rfl ?_;first|exact R4 (by unfold S7;omega) A0|exact X6 (by unfold S7;omega)|exact X5 A0
   refine s1 (L6 _ _ _) rfl rfl rfl ?_;refine s4 rfl (fun g4=>?_) fun g4=>?_
   .refine s31 (xN _) rfl ?_;refine s1 (L6 _ _ _) rfl rfl rfl ?_;refine s4 rfl (fun g5=>?_) fun g5=>?_
    .refine s7 [.int .i64 _] rfl ?_;first|exact R4 (by unfold S7;omega) A0|exact X6 (by unfold S7;omega)|exact X5 A0
    refine s1 (P7 _ _ _) rfl rfl rfl ?_;refine s1 (L6 _ _ _) rfl rfl rfl ?_;refine s4 rfl (fun g6=>?_) fun g6=>?_
    .refine s4 rfl (fun g7=>?_) fun g7=>?_
     .refine s7 [.int .i64 _] rfl ?_;first|exact R4 (by unfold S7;omega) A0|exact X6 (by unfold S7;omega)|exact X5 A0
     refine s31 (xN _) rfl ?_;refine s1 (L6 _ _ _) rfl rfl rfl ?_;refine s4 rfl (fun g8=>?_) fun g8=>?_
     .refine s7 [.int .i64 _] rfl ?_;first|exact R4 (by unfold S7;omega) A0|exact X6 (by unfold S7;omega)|exact X5 A0
     refine s1 (P7 _ _ _) rfl rfl rfl ?_;refine s31 (lI _ _ _ _ _ _ _ _ A0) rfl ?_;refine s1 (L6 _ _ _) rfl rfl rfl ?_;refine s4 rfl (fun g9=>?_) fun g9=>?_
     .refine s7 [.int .i64 _] rfl ?_;first|exact R4 (by unfold S7;omega) A0|exact X6 (by unfold S7;omega)|exact X5 A0
     refine s7 [.int .i64 _] rfl ?_;first|exact R4 (by unfold S7;omega) A0|exact X6 (by unfold S7;omega)|exact X5 A0
    refine s4 rfl (fun g7=>?_) fun g7=>?_
    .refine s31 (lI _ _ _ _ _ _ _ _ A0) rfl ?_;refine s1 (L6 _ _ _) rfl rfl rfl ?_;refine s4 rfl (fun g8=>?_) fun g8=>?_
     .refine s7 [.int .i64 _] rfl ?_;first|exact R4 (by unfold S7;omega) A0|exact X6 (by unfold S7;omega)|exact X5 A0
     refine s7 [.int .i64 _] rfl ?_;first|exact R4 (by unfold S7;omega) A0|exact X6 (by unfold S7;omega)|exact X5 A0
    refine s1 (P7 _ _ _) rfl rfl rfl ?_;refine s31 (lI _ _ _ _ _ _ _ _ A0) rfl ?_;refine s1 (L6 _ _ _) rfl rfl rfl ?_;refine s4 rfl (fun g8=>?_) fun g8=>?_
    .refine s7 [.int .i64 _] rfl ?_;first|exact R4 (by unfold S7;omega) A0|exact X6 (by unfold S7;omega)|exact X5 A0
    refine s7 [.int .i64 _] rfl ?_;first|exact R4 (by unfold S7;omega) A0|exact X6 (by unfold S7;omega)|exact X5 A0
   refine s1 (P7 _ _ _) rfl rfl rfl ?_;refine s1 (L6 _ _ _) rfl rfl rfl ?_;refine s4 rfl (fun g5=>?_) fun g5=>?_
   .refine s4 rfl (fun g6=>?_) fun g6=>?_
    .refine s7 [.int .i64 _] rfl ?_;first|exact R4 (by unfold S7;omega) A0|exact X6 (by unfold S7;omega)|exact X5 A0
    refine s31 (xN _) rfl ?_;refine s1 (L6 _ _ _) rfl rfl rfl ?_;refine s4 rfl (fun g7=>?_) fun g7=>?_
    .refine s7 [.int .i64 _] rfl ?_;first|exact R4 (by unfold S7;omega) A0|exact X6 (by unfold S7;omega)|exact X5 A0
    refine s1 (P7 _ _ _) rfl rfl rfl ?_;refine s31 (lI _ _ _ _ _ _ _ _ A0) rfl ?_;refine s1 (L6 _ _ _) rfl rfl rfl ?_;refine s4 rfl (fun g8=>?_) fun g8=>?_
    .refine s7 [.int .i64 _] rfl ?_;first|exact R4 (by unfold S7;omega) A0|exact X6 (by unfold S7;omega)|exact X5 A0
    refine s7 [.int .i64 _] rfl ?_;first|exact R4 (by unfold S7;omega) A0|exact X6 (by unfold S7;omega)|exact X5 A0
   refine s4 rfl (fun g6=>?_) fun g6=>?_
   .refine s31 (lI _ _ _ _ _ _ _ _ A0) rfl ?_;refine s1 (L6 _ _ _) rfl rfl rfl ?_;refine s4 rfl (fun g7=>?_) fun g7=>?_
    .refine s7 [.int .i64 _] rfl ?_;first|exact R4 (by unfold S7;omega) A0|exact X6 (by unfold S7;omega)|exact X5 A0
    refine s7 [.int .i64 _] rfl ?_;first|exact R4 (by unfold S7;omega) A0|exact X6 (by unfold S7;omega)|exact X5 A0
   refine s1 (P7 _ _ _) rfl rfl rfl ?_;refine s31 (lI _ _ _ _ _ _ _ _ A0) rfl ?_;refine s1 (L6 _ _ _) rfl rfl rfl ?_;refine s4 rfl (fun g7=>?_) fun g7=>?_
   .refine s7 [.int .i64 _] rfl ?_;first|exact R4 (by unfold S7;omega) A0|exact X6 (by unfold S7;omega)|exact X5 A0
   refine s7 [.int .i64 _] rfl ?_;first|exact R4 (by unfold S7;omega) A0|exact X6 (by unfold S7;omega)|exact X5 A0
  .cases c
 .cases c
def A0H{b:Bool}(h:(!b)=true):b=false:=by cases b<;>first|rfl|cases h
abbrev Cel:=Int×Int×Int×Int×Int×Int×Int×Int×Int×Int×Int×Int
def A1R(c:Cel):Int:=DF (c.1) (c.2.1) (c.2.2.1) (c.2.2.2.1) (c.2.2.2.2.1) (c.2.2.2.2.2.1) (c.2.2.2.2.2.2.1) (c.2.2.2.2.2.2.2.1) (c.2.2.2.2.2.2.2.2.1) (c.2.2.2.2.2.2.2.2.2.1) (c.2.2.2.2.2.2.2.2.2.2.1) (c.2.2.2.2.2.2.2.2.2.2.2)
def wdC(c:Cel):Int:=c.2.2.2.1
def A5c(c l:Cel):Bool:=(c.2.2.2.2.1 == l.2.2.2.2.1 && (c.2.2.2.2.2.1 == l.2.2.2.2.2.1 && (c.2.2.2.2.2.2.1 == l.2.2.2.2.2.2.1 && (c.2.2.2.2.2.2.2.1 == l.2.2.2.2.2.2.2.1 && (c.2.2.2.2.2.2.2.2.1 == l.2.2.2.2.2.2.2.2.1 && (c.2.2.2.2.2.2.2.2.2.1 == l.2.2.2.2.2.2.2.2.2.1 && (c.2.2.2.2.2.2.2.2.2.2.1 == l.2.2.2.2.2.2.2.2.2.2.1 && (c.2.2.2.2.2.2.2.2.2.2.2 == l.2.2.2.2.2.2.2.2.2.2.2 && true))))))))
def aOk(c:Cel):Prop:=(-9223372036854775808<=c.2.2.2.2.1/\c.2.2.2.2.1<=9223372036854775807)
instance(c:Cel):Decidable (aOk c):=by unfold aOk;infer_instance
def WI(c l:Cel):Prop:=A1R c≠0∨decide (wdC l=1)≠decide (wdC c=2)∨(wdC c=2/\A5c c l=false)
instance(c l:Cel):Decidable (WI c l):=by unfold WI;infer_instance
def eX:List Cel->Cel->Option Cel
 | [],l=>some l
 | c::r,l=>if WI c l then none else eX r c
def CW(r:List Cel)(l:Cel):Option Unit:=match eX r l with
 | some _=>none
 | none=>some ()
def UX(r:List Cel)(l:Cel):Cel:=(eX r l).getD l
def A7B(c:Cel):List U:=[.int .i64 (c.1),.int .i64 (c.2.1),.int .i64 (c.2.2.1),.int .i64 (c.2.2.2.1),.int .i64 (c.2.2.2.2.1),.int .i64 (c.2.2.2.2.2.1),.int .i64 (c.2.2.2.2.2.2.1),.int .i64 (c.2.2.2.2.2.2.2.1),.int .i64 (c.2.2.2.2.2.2.2.2.1),.int .i64 (c.2.2.2.2.2.2.2.2.2.1),.int .i64 (c.2.2.2.2.2.2.2.2.2.2.1),.int .i64 (c.2.2.2.2.2.2.2.2.2.2.2)]
def HC(r:List Cel)(l:Cel):Option (Nat×List U):=w5 (CW r l) (A7B (UX r l)) (fun _=>[.int .i64 220])
def ZG(l:Cel):HC [] l=some (0,A7B l):=rfl
def zP{c l:Cel}{r:List Cel}(h:WI c l):HC (c::r) l=some (1,[.int .i64 220]):=by
 unfold HC CW eX;rw[B0 h];rfl
def RO{c l:Cel}{r:List Cel}(h:¬WI c l):HC (c::r) l=HC r c:=by
 have e:eX (c::r) l=eX r c:=by rw[eX,A9 h]
 unfold HC CW UX;rw[e];cases eX r c<;>rfl
noncomputable def A7X:aY:=⟨_,fun b=>(.cons (A40 b) .nil)⟩
def wE:List U->Option (Nat×List U)
 | [u_s,.int .i64 n,.int .i64 i,.int .i64 l0,.int .i64 l1,.int .i64 l2,.int .i64 l3,.int .i64 l4,.int .i64 l5,.int .i64 l6,.int .i64 l7,.int .i64 l8,.int .i64 l9,.int .i64 l10,.int .i64 l11]=>(R5 rCl u_s).bind fun s=>if n=((el s).length:Int)/\0<=i/\i<=n/\n<=1000/\∀ c ∈ el s,aOk c then HC ((el s).drop i.toNat) (l0,l1,l2,l3,l4,l5,l6,l7,l8,l9,l10,l11)else none
 | _=>none
def fG(s:(Option (List (Int×Int×Int×Int×Int×Int×Int×Int×Int×Int×Int×Int))))(n:Int)(i:Int)(q:Int)(l1:Int)(l2:Int)(d:Int)(o:Int)(k:Int)(f:Int)(g:Int)(l:Int)(m:Int)(l10:Int)(b:Int)(t:n=((el s).length:Int)/\0<=i/\i<=n/\n<=1000/\∀ c ∈ el s,aOk c):wE [C9 rCl s,.int .i64 n,.int .i64 i,.int .i64 q,.int .i64 l1,.int .i64 l2,.int .i64 d,.int .i64 o,.int .i64 k,.int .i64 f,.int .i64 g,.int .i64 l,.int .i64 m,.int .i64 l10,.int .i64 b]=HC ((el s).drop i.toNat) (q,l1,l2,d,o,k,f,g,l,m,l10,b):=by
 simp only[wE,J3,G2];exact B0 t
def A4C:U5:=⟨[(4,.pointer (some ⟨12,0,none⟩)),(17,dat 13 0 22),(18,h 1 3),(19,h 2 3)],[(12,.cells 61 [h 3 3,h 4 3,h 5 3,h 6 3,h 7 3,h 8 3,h 9 3,h 10 3,h 11 3,h 12 3,h 13 3,h 14 3]),(13,.frz)],15,[⟨.exit 0,[(4,.pointer (some ⟨12,0,none⟩))],[(12,.cells 61 [h 0 3,h 1 3,h 2 3,h 3 3,h 4 3,h 5 3,h 6 3,h 7 3,h 8 3,h 9 3,h 10 3,h 11 3])],12⟩,⟨.ret,[(2,h 0 3)],[],1⟩]⟩
noncomputable def ZE:Code:=(f31.body).getD .skip
noncomputable def A39:Code:=match H8 [true,true,true,false,true,false] ZE with|some (.loop x)=>x|_=>.skip
def A4B:f31.body=some ZE:=rfl
def A4A:H8 [true,true,true,false,true,false] ZE=some (.loop A39):=G4
def lG(a0:Nat)(c:Nat)(a2:Nat)(b:Tr):Tr:=.lt 8 (.inbs 12) [h c 3,h a0 22]<|.br a2 b .no
def A3_:Tr:=T8 2 1 15 (lG 0 2 16 (.lt 3 (.get 12 0) [h 0 22,h 2 3]<|.lt 3 (.get 12 1) [h 0 22,h 2 3]<|.lt 3 (.get 12 2) [h 0 22,h 2 3]<|.lt 3 (.get 12 3) [h 0 22,h 2 3]<|.lt 3 (.get 12 4) [h 0 22,h 2 3]<|.lt 3 (.get 12 5) [h 0 22,h 2 3]<|.lt 3 (.get 12 6) [h 0 22,h 2 3]<|.lt 3 (.get 12 7) [h 0 22,h 2 3]<|.lt 3 (.get 12 8) [h 0 22,h 2 3]<|.lt 3 (.get 12 9) [h 0 22,h 2 3]<|.lt 3 (.get 12 10) [h 0 22,h 2 3]<|.lt 3 (.get 12 11) [h 0 22,h 2 3]<|.fn TS [h 17 3,h 18 3,h 19 3,h 20 3,h 21 3,h 22 3,h 23 3,h 24 3,h 25 3,h 26 3,h 27 3,h 28 3] 1<|bH 29 30 (.ret [jI 1,jI 220]) (.lt 8 (.bin .eql) [h 6 3,jI 1]<|.lt 8 (.bin .eql) [h 20 3,jI 2]<|.lt 8 (.bin .neq) [h 31 8,h 32 8]<|.br 33 (.ret [jI 1,jI 220]) (.lt 8 (.bin .eql) [h 20 3,jI 2]<|.br 34 (.lt 8 (.eqs) [h 21 3,h 7 3,h 22 3,h 8 3,h 23 3,h 9 3,h 24 3,h 10 3,h 25 3,h 11 3,h 26 3,h 12 3,h 27 3,h 13 3,h 28 3,h 14 3]<|yY 35 (.ret [jI 1,jI 220]) (.lt 3 (.bin .add) [h 2 3,jI 1]<|.ret [jI (-1),h 0 22,h 1 3,h 37 3,h 17 3,h 18 3,h 19 3,h 20 3,h 21 3,h 22 3,h 23 3,h 24 3,h 25 3,h 26 3,h 27 3,h 28 3])) (.lt 3 (.bin .add) [h 2 3,jI 1]<|.ret [jI (-1),h 0 22,h 1 3,h 35 3,h 17 3,h 18 3,h 19 3,h 20 3,h 21 3,h 22 3,h 23 3,h 24 3,h 25 3,h 26 3,h 27 3,h 28 3]))))) (.ret [jI 0,h 3 3,h 4 3,h 5 3,h 6 3,h 7 3,h 8 3,h 9 3,h 10 3,h 11 3,h 12 3,h 13 3,h 14 3])
def ZD:List U->Nat
 | [u_s,.int .i64 n,.int .i64 i,.int .i64 l0,.int .i64 l1,.int .i64 l2,.int .i64 l3,.int .i64 l4,.int .i64 l5,.int .i64 l6,.int .i64 l7,.int .i64 l8,.int .i64 l9,.int .i64 l10,.int .i64 l11]=>(match R5 rCl u_s with|some s=>(n-i).toNat|none=>0)
 | _=>0
def GZ(s:(Option (List (Int×Int×Int×Int×Int×Int×Int×Int×Int×Int×Int×Int))))(n:Int)(i:Int)(o:Int)(l1:Int)(l2:Int)(c:Int)(m:Int)(g:Int)(d:Int)(f:Int)(k:Int)(l:Int)(l10:Int)(b:Int):ZD [C9 rCl s,.int .i64 n,.int .i64 i,.int .i64 o,.int .i64 l1,.int .i64 l2,.int .i64 c,.int .i64 m,.int .i64 g,.int .i64 d,.int .i64 f,.int .i64 k,.int .i64 l,.int .i64 l10,.int .i64 b]=(n-i).toNat:=by
 simp only[ZD,J3]
def A6W{G}(z:R0 G):∀ (E:Nat->U) (base:Nat),@N6 ⟨E,G⟩ prog base gl f31.ntmps A39 (M4 prog gl n0 14 A4C wE):=by
 refine W8 (dep:=60) (f:=31) (n0:=n0) (nB:=14) (H0:=H0) ZD A3_ (cxg (A7X.2 z) .nil) z func31 A4B A4A G4 G4 G4 ?_;intro us d outs k;have B:=k;unfold wE at k;split at k
 .skip;rename_i C n i y l1 l2 q m v t l o w l10 b;have A:=B9.1 k;clear k;obtain⟨s,g,k⟩:=A;replace g:=M0 g;subst g;split at k
  .rename_i c;clear k B;refine⟨rfl,?_⟩;unfold A3_;refine s0 (.cons 14 _ (.cons 13 _ (.cons 12 _ (.cons 11 _ (.cons 10 _ (.cons 9 _ (.cons 8 _ (.cons 7 _ (.cons 6 _ (.cons 5 _ (.cons 4 _ (.cons 3 _ (.cons 2 _ (.cons 1 _ (.cons 0 _ (.nil)))))))))))))))) rfl (by simp[Ev.ok,Ev.len]) ?_;refine s1 (J6 _ _ _) rfl rfl rfl ?_;refine s5 rfl (fun g0=>?_) fun g0=>?_
   .refine s7 [.int .i64 _,.int .i64 _,.int .i64 _,.int .i64 _,.int .i64 _,.int .i64 _,.int .i64 _,.int .i64 _,.int .i64 _,.int .i64 _,.int .i64 _,.int .i64 _,.int .i64 _] rfl ?_;refine D3 (d:=0) ?_;rw[fG s n i y l1 l2 q m v t l o w l10 b c,gQ (el s) A0];exact ZG (y,l1,l2,q,m,v,t,l,o,w,l10,b)
   refine s1 (G7 rfl) rfl rfl rfl ?_;refine s5 rfl (fun g1=>?_) fun g1=>?_
   .refine s8 ?_;first|omega
   refine s1 (u:=.int .i64 _) (B8 rfl A0 A0 rfl) rfl rfl rfl ?_;refine s1 (u:=.int .i64 _) (B8 rfl A0 A0 rfl) rfl rfl rfl ?_;refine s1 (u:=.int .i64 _) (B8 rfl A0 A0 rfl) rfl rfl rfl ?_;refine s1 (u:=.int .i64 _) (B8 rfl A0 A0 rfl) rfl rfl rfl ?_;refine s1 (u:=.int .i64 _) (B8 rfl A0 A0 rfl) rfl rfl rfl ?_;refine s1 (u:=.int .i64 _) (B8 rfl A0 A0 rfl) rfl rfl rfl ?_;refine s1 (u:=.int .i64 _) (B8 rfl A0 A0 rfl) rfl rfl rfl ?_;refine s1 (u:=.int .i64 _) (B8 rfl A0 A0 rfl) rfl rfl rfl ?_;refine s1 (u:=.int .i64 _) (B8 rfl A0 A0 rfl) rfl rfl rfl ?_;refine s1 (u:=.int .i64 _) (B8 rfl A0 A0 rfl) rfl rfl rfl ?_;refine s1 (u:=.int .i64 _) (B8 rfl A0 A0 rfl) rfl rfl rfl ?_;refine s1 (u:=.int .i64 _) (B8 rfl A0 A0 rfl) rfl rfl rfl ?_;refine s31 (A2x _ _ _ _ _ _ _ _ _ _ _ _ (yS c.2.2.2.2 A0 A0)) rfl ?_;refine s1 (L6 _ _ _) rfl rfl rfl ?_;refine s4 rfl (fun g2=>?_) fun g2=>?_
   .refine s7 [.int .i64 _,.int .i64 _] rfl ?_;refine D3 (d:=1) ?_;rw[fG s n i y l1 l2 q m v t l o w l10 b c,Q8 (el s) (i:=i) A0 A0];refine zP ?_;first|exact .inl ‹_›|exact .inr (.inl ‹_›)|exact .inr (.inr ⟨by assumption,A0H ‹_›⟩)
   refine s1 (P7 _ _ _) rfl rfl rfl ?_;refine s1 (P7 _ _ _) rfl rfl rfl ?_;refine s1 (A59 _ _) rfl rfl rfl ?_;refine s4 rfl (fun g3=>?_) fun g3=>?_
   .refine s7 [.int .i64 _,.int .i64 _] rfl ?_;refine D3 (d:=1) ?_;rw[fG s n i y l1 l2 q m v t l o w l10 b c,Q8 (el s) (i:=i) A0 A0];refine zP ?_;first|exact .inl ‹_›|exact .inr (.inl ‹_›)|exact .inr (.inr ⟨by assumption,A0H ‹_›⟩)
   refine s1 (P7 _ _ _) rfl rfl rfl ?_;refine s4 rfl (fun g4=>?_) fun g4=>?_
   .refine s1 rfl rfl rfl rfl ?_;first|refine s1 (bG _) rfl rfl rfl ?_|refine s1 (lW _) rfl rfl rfl ?_
    first|refine s4 rfl (fun g5=>?_) (fun g5=>?_)|refine s4B rfl (fun g5=>?_) (fun g5=>?_)
    .refine s7 [.int .i64 _,.int .i64 _] rfl ?_;refine D3 (d:=1) ?_;rw[fG s n i y l1 l2 q m v t l o w l10 b c,Q8 (el s) (i:=i) A0 A0];refine zP ?_;first|exact .inl ‹_›|exact .inr (.inl ‹_›)|exact .inr (.inr ⟨by assumption,A0H ‹_›⟩)
    first|refine s1 (D2 (D0 A0 A0)) rfl rfl rfl ?_|refine s1 (E5 _ _ _) rfl rfl rfl ?_
    refine s7 [.int .i64 _,C9 rCl _,.int .i64 _,.int .i64 _,.int .i64 _,.int .i64 _,.int .i64 _,.int .i64 _,.int .i64 _,.int .i64 _,.int .i64 _,.int .i64 _,.int .i64 _,.int .i64 _,.int .i64 _,.int .i64 _] rfl ?_;refine F0 ?_ ?_
    .refine(fG s n (i+1) _ _ _ _ _ _ _ _ _ _ _ _ ⟨c.1,A0,A0,c.2.2.2⟩).trans ?_;rw[fG s n i y l1 l2 q m v t l o w l10 b c,Q8 (el s) (i:=i) A0 A0];refine(RO ?_).symm
     rintro(h|h|⟨h,h2⟩)
     .exact g2 h
     .exact g3 h
     .first|exact g4 h|(have g5:(!A5c ((el s).getD i.toNat default) (y,l1,l2,q,m,v,t,l,o,w,l10,b))=false:=g5;rw[h2]at g5;cases g5)
    .rw[GZ,GZ];omega
   first|refine s1 (D2 (D0 A0 A0)) rfl rfl rfl ?_|refine s1 (E5 _ _ _) rfl rfl rfl ?_
   refine s7 [.int .i64 _,C9 rCl _,.int .i64 _,.int .i64 _,.int .i64 _,.int .i64 _,.int .i64 _,.int .i64 _,.int .i64 _,.int .i64 _,.int .i64 _,.int .i64 _,.int .i64 _,.int .i64 _,.int .i64 _,.int .i64 _] rfl ?_;refine F0 ?_ ?_
   .refine(fG s n (i+1) _ _ _ _ _ _ _ _ _ _ _ _ ⟨c.1,A0,A0,c.2.2.2⟩).trans ?_;rw[fG s n i y l1 l2 q m v t l o w l10 b c,Q8 (el s) (i:=i) A0 A0];refine(RO ?_).symm
    rintro(h|h|⟨h,h2⟩)
    .exact g2 h
    .exact g3 h
    .first|exact g4 h|(have g5:(!A5c ((el s).getD i.toNat default) (y,l1,l2,q,m,v,t,l,o,w,l10,b))=false:=g5;rw[h2]at g5;cases g5)
   .rw[GZ,GZ];omega
  .cases k
 .cases k
noncomputable def A5M:List LpE:=(31,([true,true,true,false,true,false],M4 prog gl n0 14 A4C wE))::[]
def CF{G}(b:R0 G):e9 prog G gl A5M:=.cons func31 A4B A4A (A6W b) .nil
def kE(l:List Cel):Int:=if(l.length:Int)<2∨80<(l.length:Int)then 220 else match eX l (0,0,0,0,0,0,0,0,0,0,0,0)with
 | none=>220
 | some c=>if wdC c=1 then 220 else 0
def uN{l:List Cel}(h:(l.length:Int)<2∨80<(l.length:Int)):kE l=220:=B0 h
def EB{l:List Cel}{c:Cel}(h:CW l c=none):eX l c=some (UX l c):=by
 unfold CW at h;unfold UX;cases hp:eX l c with
 | some v=>rfl
 | none=>rw[hp]at h;cases h
def UY{l:List Cel}{c:Cel}(h:CW l c=some u):eX l c=none:=by
 unfold CW at h;cases hp:eX l c with
 | some v=>rw[hp]at h;cases h
 | none=>rfl
def zS{l:List Cel}(h:¬((l.length:Int)<2∨80<(l.length:Int)))(b:CW l (0,0,0,0,0,0,0,0,0,0,0,0)=some u):kE l=220:=by unfold kE;rw[A9 h,UY b]
def zR{l:List Cel}(h:¬((l.length:Int)<2∨80<(l.length:Int)))(b:CW l (0,0,0,0,0,0,0,0,0,0,0,0)=none)(h3:wdC (UX l (0,0,0,0,0,0,0,0,0,0,0,0))=1):kE l=220:=by unfold kE;rw[A9 h,EB b];exact B0 h3
def zQ{l:List Cel}(h:¬((l.length:Int)<2∨80<(l.length:Int)))(b:CW l (0,0,0,0,0,0,0,0,0,0,0,0)=none)(h3:¬wdC (UX l (0,0,0,0,0,0,0,0,0,0,0,0))=1):kE l=0:=by unfold kE;rw[A9 h,EB b];exact A9 h3
def A6X{s:Option (List Cel)}(h:¬80<((el s).length:Int))(b:∀ c ∈ el s,aOk c):wE [C9 rCl s,.int .i64 ((el s).length:Int),.int .i64 0,.int .i64 0,.int .i64 0,.int .i64 0,.int .i64 0,.int .i64 0,.int .i64 0,.int .i64 0,.int .i64 0,.int .i64 0,.int .i64 0,.int .i64 0,.int .i64 0]=HC (el s) (0,0,0,0,0,0,0,0,0,0,0,0):=fG s _ 0 0 0 0 0 0 0 0 0 0 0 0 0 ⟨rfl,C8,A0,A0,b⟩
noncomputable def A7Y:aY:=⟨_,fun b=>(.cons (A40 b) .nil)⟩
def KX:List U->Option (Nat×List U)
 | [u_s,.bool wr]=>(R5 rCl u_s).bind fun s=>if ∀ c ∈ el s,aOk c then some (0,[.int .i64 (kE (el s))])else none
 | _=>none
def A2C(s:(Option (List (Int×Int×Int×Int×Int×Int×Int×Int×Int×Int×Int×Int))))(wr:Bool)(b:∀ c ∈ el s,aOk c):KX [C9 rCl s,.bool wr]=some (0,[.int .i64 (kE (el s))]):=by
 simp only[KX,J3,G2];exact B0 b
def A4E:Tr:=.lt 3 (.len) [h 0 22]<|jL 2 3 2 (I0 220) (nA 2 4 80 (I0 220) (.lp wE [h 0 22,h 2 3,jI 0,jI 0,jI 0,jI 0,jI 0,jI 0,jI 0,jI 0,jI 0,jI 0,jI 0,jI 0,jI 0] 0 12 (.lt 8 (.bin .eql) [h 8 3,jI 1]<|.br 17 (I0 220) (I0 0)) (.lp wE [h 0 22,h 2 3,jI 0,jI 0,jI 0,jI 0,jI 0,jI 0,jI 0,jI 0,jI 0,jI 0,jI 0,jI 0,jI 0] 1 1 (.ret [h 5 3]) (.no))))
def A4F{G}(f:R0 G):t6 prog G 31 [.a [22,8]] KX [.s 3]:=by
 refine M5 (d:=60) A4E (cxg (A7Y.2 f) (CF f)) f ⟨f31,_,func31,rfl⟩ G4 G4 ?_;intro us outs c;unfold KX at c;split at c
 .skip;rename_i k wr;have g:=B9.1 c;clear c;obtain⟨s,b,c⟩:=g;replace b:=M0 b;subst b;split at c
  .rename_i l;cases c;unfold A4E;refine s0 (.cons 1 _ (.cons 0 _ (.nil))) rfl (by simp[Ev.ok,Ev.len]) ?_;refine s1 (G8 _ _) rfl rfl rfl ?_;refine s1 (J6 _ _ _) rfl rfl rfl ?_;refine s4 rfl (fun g0=>?_) fun g0=>?_
   .refine s7 [.int .i64 _] rfl ?_;refine D8 (fun z=>[U.int .i64 z]) ?_;symm;first|exact uN A0|exact zS A0 ‹_›|exact zR A0 ‹_› ‹_›|exact zQ A0 ‹_› ‹_›
   refine s1 (jP _ _ _) rfl rfl rfl ?_;refine s4 rfl (fun g1=>?_) fun g1=>?_
   .refine s7 [.int .i64 _] rfl ?_;refine D8 (fun z=>[U.int .i64 z]) ?_;symm;first|exact uN A0|exact zS A0 ‹_›|exact zR A0 ‹_› ‹_›|exact zQ A0 ‹_› ‹_›
   refine s6 (A6X A0 l) rfl (fun _=>rfl) (fun g2=>?_) (fun v2 g2=>?_)
   .show Tr.sav _ _ (.cons 16 _ (.cons 15 _ (.cons 14 _ (.cons 13 _ (.cons 12 _ (.cons 11 _ (.cons 10 _ (.cons 9 _ (.cons 8 _ (.cons 7 _ (.cons 6 _ (.cons 5 _ _))))))))))));refine s1 (P7 _ _ _) rfl rfl rfl ?_;refine s4 rfl (fun g3=>?_) fun g3=>?_
    .refine s7 [.int .i64 _] rfl ?_;refine D8 (fun z=>[U.int .i64 z]) ?_;symm;first|exact uN A0|exact zS A0 ‹_›|exact zR A0 ‹_› ‹_›|exact zQ A0 ‹_› ‹_›
    refine s7 [.int .i64 _] rfl ?_;refine D8 (fun z=>[U.int .i64 z]) ?_;symm;first|exact uN A0|exact zS A0 ‹_›|exact zR A0 ‹_› ‹_›|exact zQ A0 ‹_› ‹_›
   show Tr.sav _ _ (.cons 5 _ _);refine s7 [.int .i64 _] rfl ?_;refine D8 (fun z=>[U.int .i64 z]) ?_;symm;first|exact uN A0|exact zS A0 ‹_›|exact zR A0 ‹_› ‹_›|exact zQ A0 ‹_› ‹_›
  .cases c
 .cases c
abbrev Row:=Option (List Cel)×Bool
def qD(w:Int)(r:Row):Bool:=decide (kE (el r.1)≠0) || decide (((el r.1).length:Int)≠w)
def A1g{w:Int}{r:Row}(h:kE (el r.1)≠0):qD w r=true:=by unfold qD;rw[I5 h];rfl
def A1f{w:Int}{r:Row}(h:((el r.1).length:Int)≠w):qD w r=true:=by unfold qD;rw[I5 h,Bool.or_true]
def A6I{w:Int}{r:Row}(h:¬kE (el r.1)≠0)(b:¬((el r.1).length:Int)≠w):qD w r=false:=by unfold qD;rw[U2 h,U2 b];rfl
def N5(rows:Option (List Row)):Int:=((el ((el rows).getD 0 default).1).length:Int)
def mO(rows:Option (List Row)):Prop:=∀ r ∈ el rows,∀ c ∈ el r.1,aOk c
instance(rows:Option (List Row)):Decidable (mO rows):=by unfold mO;infer_instance
noncomputable def A7b:aY:=⟨_,fun b=>(.cons (A4F b) .nil)⟩
def AC:List U->Option (Nat×List U)
 | [u_rows,u_s,.int .i64 n,.int .i64 i]=>(R5 rRw u_rows).bind fun rows=>(R5 rRw u_s).bind fun s=>if n=((el s).length:Int)/\0<=i/\i<=n/\n<=1000/\0<((el rows).length:Int)/\mO s then w5 (iW (qD (N5 rows)) ((el s).drop i.toNat) i) [] (fun _=>[.int .i64 420])else none
 | _=>none
def pE(rows:(Option (List ((Option (List (Int×Int×Int×Int×Int×Int×Int×Int×Int×Int×Int×Int)))×Bool))))(s:(Option (List ((Option (List (Int×Int×Int×Int×Int×Int×Int×Int×Int×Int×Int×Int)))×Bool))))(n:Int)(i:Int)(b:n=((el s).length:Int)/\0<=i/\i<=n/\n<=1000/\0<((el rows).length:Int)/\mO s):AC [C9 rRw rows,C9 rRw s,.int .i64 n,.int .i64 i]=w5 (iW (qD (N5 rows)) ((el s).drop i.toNat) i) [] (fun _=>[.int .i64 420]):=by
 simp only[AC,J3,G2];exact B0 b
def A4M:U5:=⟨[(0,dat 11 0 12),(13,dat 12 1 12),(14,h 2 3),(15,h 3 3)],[(11,.frz),(12,.frz)],4,[⟨.exit 0,[],[],0⟩,⟨.ret,[(2,h 0 3)],[],1⟩]⟩
noncomputable def ZX:Code:=(f10.body).getD .skip
noncomputable def A4I:Code:=match H8 [true,true,false,true,false] ZX with|some (.loop x)=>x|_=>.skip
def A4L:f10.body=some ZX:=rfl
def A4K:H8 [true,true,false,true,false] ZX=some (.loop A4I):=G4
def Z5(a0:Nat)(c:Nat)(b:Tr):Tr:=.lt 8 (.inbs 2) [jI 0,h a0 12]<|.br c b .no
def A4J:Tr:=T8 3 2 4 (bJ 1 3 5 (.dt 22 (.get 2 0) [h 1 12,h 3 3]<|.lt 8 (.get 2 1) [h 1 12,h 3 3]<|.fn KX [h 6 22,h 7 8] 1<|bH 8 9 (.ret [jI 1,jI 420]) (.lt 3 (.len) [h 6 22]<|Z5 0 11 (.dt 22 (.get 2 0) [h 0 12,jI 0]<|.lt 3 (.len) [h 12 22]<|.lt 8 (.bin .neq) [h 10 3,h 13 3]<|.br 14 (.ret [jI 1,jI 420]) (.lt 3 (.bin .add) [h 3 3,jI 1]<|.ret [jI (-1),h 0 12,h 1 12,h 2 3,h 15 3]))))) (I0 0)
def ZW:List U->Nat
 | [u_rows,u_s,.int .i64 n,.int .i64 i]=>(match R5 rRw u_rows with|some rows=>(match R5 rRw u_s with|some s=>(n-i).toNat|none=>0)|none=>0)
 | _=>0
def ZV(rows:(Option (List ((Option (List (Int×Int×Int×Int×Int×Int×Int×Int×Int×Int×Int×Int)))×Bool))))(s:(Option (List ((Option (List (Int×Int×Int×Int×Int×Int×Int×Int×Int×Int×Int×Int)))×Bool))))(n:Int)(i:Int):ZW [C9 rRw rows,C9 rRw s,.int .i64 n,.int .i64 i]=(n-i).toNat:=by
 simp only[ZW,J3]
def A6d{G}(m:R0 G):∀ (E:Nat->U) (base:Nat),@N6 ⟨E,G⟩ prog base gl f10.ntmps A4I (M4 prog gl n0 13 A4M AC):=by
 refine W8 (dep:=60) (f:=10) (n0:=n0) (nB:=13) (H0:=H0) ZW A4J (cxg (A7b.2 m) (CF m)) m func10 A4L A4K G4 G4 G4 ?_;intro us d outs c;have t:=c;unfold AC at c;split at c
 .skip;rename_i q v n i;have k:=B9.1 c;clear c;obtain⟨rows,b,c⟩:=k;replace b:=M0 b;subst b;have o:=B9.1 c;clear c;obtain⟨s,g,c⟩:=o;replace g:=M0 g;subst g;split at c
  .rename_i l;clear c t;refine⟨rfl,?_⟩;unfold A4J;refine s0 (.cons 3 _ (.cons 2 _ (.cons 1 _ (.cons 0 _ (.nil))))) rfl (by simp[Ev.ok,Ev.len]) ?_;refine s1 (J6 _ _ _) rfl rfl rfl ?_;refine s5 rfl (fun g0=>?_) fun g0=>?_
   .refine s7 [.int .i64 _] rfl ?_;refine D3 (d:=0) ?_;rw[pE rows s n i l,VV A0];rfl
   refine s1 (G7 rfl) rfl rfl rfl ?_;refine s5 rfl (fun g1=>?_) fun g1=>?_
   .refine s8 ?_;omega
   refine s2 (r:=rCl) (B8 rfl A0 A0 rfl) rfl rfl ?_;refine s1 (u:=.bool _) (B8 rfl A0 A0 rfl) rfl rfl rfl ?_;refine s31 (A2C _ _ (l.2.2.2.2.2 _ (x3 A0 A0))) rfl ?_;refine s1 (L6 _ _ _) rfl rfl rfl ?_;refine s4 rfl (fun g2=>?_) fun g2=>?_
   .refine s7 [.int .i64 _,.int .i64 _] rfl ?_;refine D3 (d:=1) ?_;rw[pE rows s n i l,FG A0 A0 (by first|exact A1g ‹_›|exact A1f ‹_›)];rfl
   refine s1 (G8 _ _) rfl rfl rfl ?_;refine s1 (G7 rfl) rfl rfl rfl ?_;refine s5 rfl (fun g3=>?_) fun g3=>?_
   .refine s8 ?_;omega
   refine s2 (r:=rCl) (B8 rfl A0 A0 rfl) rfl rfl ?_;refine s1 (G8 _ _) rfl rfl rfl ?_;refine s1 (L6 _ _ _) rfl rfl rfl ?_;refine s4 rfl (fun g4=>?_) fun g4=>?_
   .refine s7 [.int .i64 _,.int .i64 _] rfl ?_;refine D3 (d:=1) ?_;rw[pE rows s n i l,FG A0 A0 (by first|exact A1g ‹_›|exact A1f ‹_›)];rfl
   first|refine s1 (D2 (D0 A0 A0)) rfl rfl rfl ?_|refine s1 (E5 _ _ _) rfl rfl rfl ?_
   refine s7 [.int .i64 _,C9 rRw _,C9 rRw _,.int .i64 _,.int .i64 _] rfl ?_;refine F0 ?_ ?_
   .rw[pE rows s n (i+1) ⟨l.1,A0,A0,l.2.2.2⟩,pE rows s n i l,QH (i:=i) A0 A0 (A6I ‹_› ‹_›)]
   .rw[ZV,ZV];omega
  .cases c
 .cases c
noncomputable def A5N:List LpE:=(10,([true,true,false,true,false],M4 prog gl n0 13 A4M AC))::A5M
def CG{G}(b:R0 G):e9 prog G gl A5N:=.cons func10 A4L A4K (A6d b) (CF b)
def U1(rows:Option (List Row)):Int:=if((el rows).length:Int)=0∨140<((el rows).length:Int)then 420 else if(el rows).any (qD (N5 rows))=true then 420 else 0
def IY{rows:Option (List Row)}(h:((el rows).length:Int)=0∨140<((el rows).length:Int)):U1 rows=420:=B0 h
def IX{rows:Option (List Row)}(h:¬(((el rows).length:Int)=0∨140<((el rows).length:Int)))(b:iW (qD (N5 rows)) ((el rows).drop (0:Int).toNat) 0=some j):U1 rows=420:=by
 unfold U1;rw[A9 h,B0];rcases vI (p:=qD (N5 rows)) (el rows) 0 C8 with⟨q,_⟩|⟨j,q,_,c⟩
 .rw[N4,q]at b;cases b
 .exact c
def IW{rows:Option (List Row)}(h:¬(((el rows).length:Int)=0∨140<((el rows).length:Int)))(b:iW (qD (N5 rows)) ((el rows).drop (0:Int).toNat) 0=none):U1 rows=0:=by
 unfold U1;rw[A9 h,A9];rcases vI (p:=qD (N5 rows)) (el rows) 0 C8 with⟨_,q⟩|⟨j,q,_⟩
 .rw[q];decide
 .rw[N4,q]at b;cases b
noncomputable def A7c:aY:=⟨_,fun b=>(.cons (A4F b) .nil)⟩
def LI:List U->Option (Nat×List U)
 | [u_rows]=>(R5 rRw u_rows).bind fun rows=>if mO rows then some (0,[.int .i64 (U1 rows)])else none
 | _=>none
def tE(rows:(Option (List ((Option (List (Int×Int×Int×Int×Int×Int×Int×Int×Int×Int×Int×Int)))×Bool))))(b:mO rows):LI [C9 rRw rows]=some (0,[.int .i64 (U1 rows)]):=by
 simp only[LI,J3,G2];exact B0 b
def A4N:Tr:=.lt 3 (.len) [h 0 12]<|.lt 8 (.bin .eql) [h 1 3,jI 0]<|.br 2 (I0 420) (nA 1 3 140 (I0 420) (.lp AC [h 0 12,h 0 12,h 1 3,jI 0] 0 0 (I0 0) (.lp AC [h 0 12,h 0 12,h 1 3,jI 0] 1 1 (.ret [h 4 3]) (.no))))
def eF{G}(g:R0 G):t6 prog G 10 [.s 12] LI [.s 3]:=by
 refine M5 (d:=60) A4N (cxg (A7c.2 g) (CG g)) g ⟨f10,_,func10,rfl⟩ G4 G4 ?_;intro us outs f;unfold LI at f;split at f
 .skip;rename_i k;have c:=B9.1 f;clear f;obtain⟨rows,b,f⟩:=c;replace b:=M0 b;subst b;split at f
  .rename_i l;cases f;unfold A4N;refine s0 (.cons 0 _ (.nil)) rfl (by simp[Ev.ok,Ev.len]) ?_;refine s1 (G8 _ _) rfl rfl rfl ?_;refine s1 (P7 _ _ _) rfl rfl rfl ?_;refine s4 rfl (fun g0=>?_) fun g0=>?_
   .refine s7 [.int .i64 _] rfl ?_;refine D8 (fun z=>[U.int .i64 z]) ?_;symm;first|exact IY A0|exact IX A0 ‹_›|exact IW A0 ‹_›
   refine s1 (jP _ _ _) rfl rfl rfl ?_;refine s4 rfl (fun g1=>?_) fun g1=>?_
   .refine s7 [.int .i64 _] rfl ?_;refine D8 (fun z=>[U.int .i64 z]) ?_;symm;first|exact IY A0|exact IX A0 ‹_›|exact IW A0 ‹_›
   refine s6 (pE rows rows _ 0 ⟨rfl,C8,A0,A0,A0,l⟩) rfl (fun _=>rfl) (fun g2=>?_) (fun v2 g2=>?_)
   .show Tr.sav _ _ _;refine s7 [.int .i64 _] rfl ?_;refine D8 (fun z=>[U.int .i64 z]) ?_;symm;first|exact IY A0|exact IX A0 ‹_›|exact IW A0 ‹_›
   show Tr.sav _ _ (.cons 4 _ _);refine s7 [.int .i64 _] rfl ?_;refine D8 (fun z=>[U.int .i64 z]) ?_;symm;first|exact IY A0|exact IX A0 ‹_›|exact IW A0 ‹_›
  .cases f
 .cases f
def VU(l:List Row):Nat->Nat
 | 0=>0
 | k+1=>if(l.getD k default).2=true then VU l k else k+1
def PX(l:List Row):Nat->Nat->Nat
 | 0,i=>i
 | f+1,i=>if(l.getD i default).2=true/\i+1<l.length then PX l f (i+1)else i
def gN(l:List Row)(i:Int):Int:=VU l i.toNat
def aJ(l:List Row)(i:Int):Int:=PX l (l.length-i.toNat) i.toNat
def A0s{l:List Row}(h:¬0<i)(b:0<=i):gN l i=i:=by
 have:i=0:=A0;subst this;rfl
def A2i{l:List Row}(h:0<i)(b:(l.getD (i-1).toNat default).2=true):gN l i=gN l (i-1):=by
 unfold gN;rw[show i.toNat=(i-1).toNat+1 by omega,VU,B0 b]
def TB{l:List Row}(h:0<i)(b:(l.getD (i-1).toNat default).2=false):gN l i=i:=by
 unfold gN;rw[show i.toNat=(i-1).toNat+1 by omega,VU,A9 (by rw[b];decide)];omega
def A2U{l:List Row}(c:0<=i)(h:(l.getD i.toNat default).2=true)(b:i+1<(l.length:Int)):aJ l i=aJ l (i+1):=by
 unfold aJ;rw[show l.length-i.toNat=(l.length-(i+1).toNat)+1 by omega,PX,B0 ⟨h,A0⟩,show(i+1).toNat=i.toNat+1 by omega]
def HU{l:List Row}(d:0<=i)(h:(l.getD i.toNat default).2=false∨¬i+1<(l.length:Int)):aJ l i=i:=by
 unfold aJ;cases c:l.length-i.toNat with
 | zero=>show((i.toNat:Nat):Int)=i;omega
 | succ k =>
   rw[PX,A9]
   .omega
   .rintro⟨b,f⟩
    rcases h with h|h
    .rw[h]at b;cases b
    .omega
def TC(l:List Row):∀ k,VU l k<=k
 | 0=>A7 _
 | k+1=>by unfold VU;split;exact Nat.le_succ_of_le (TC l k);exact A7 _
def SL(l:List Row):∀ f i,i<=PX l f i/\(i<l.length->PX l f i<l.length)
 | 0,i=>⟨A7 _,id⟩
 | f+1,i=>by
   unfold PX;split
   .rename_i h;obtain⟨a,b⟩:=SL l f (i+1);exact⟨A0,fun _=>b h.2⟩
   .exact⟨A7 _,id⟩
def SQ{l:List Row}(d:0<=i)(f:i<(l.length:Int)):0<=gN l i/\gN l i<=i/\i<=aJ l i/\aJ l i<(l.length:Int):=by
 have a:=TC l i.toNat;obtain⟨b,c⟩:=SL l (l.length-i.toNat) i.toNat;have c:=c A0;unfold gN aJ;omega
noncomputable def A7f:aY:=⟨_,fun b=>.nil⟩
def ES:List U->Option (Nat×List U)
 | [u_rows,.int .i64 first,.int .i64 last]=>(R5 rRw u_rows).bind fun rows=>if 0<=first/\first<((el rows).length:Int)/\((el rows).length:Int)<=1000000 then some (0,[C9 rRw rows,.int .i64 (gN (el rows) first),.int .i64 last])else none
 | _=>none
def tJ(rows:(Option (List ((Option (List (Int×Int×Int×Int×Int×Int×Int×Int×Int×Int×Int×Int)))×Bool))))(first:Int)(last:Int)(b:0<=first/\first<((el rows).length:Int)/\((el rows).length:Int)<=1000000):ES [C9 rRw rows,.int .i64 first,.int .i64 last]=some (0,[C9 rRw rows,.int .i64 (gN (el rows) first),.int .i64 last]):=by
 simp only[ES,J3,G2];exact B0 b
def A4c:U5:=⟨[(0,dat 11 0 12),(4,h 1 3),(5,h 2 3)],[(11,.frz)],3,[⟨.exit 0,[(0,dat 12 0 12),(4,h 1 3),(5,h 2 3)],[(12,.frz)],3⟩]⟩
noncomputable def A0Y:Code:=(f35.body).getD .skip
noncomputable def A4Y:Code:=match H8 [true,true,false,false] A0Y with|some (.loop x)=>x|_=>.skip
def A4b:f35.body=some A0Y:=rfl
def A4a:H8 [true,true,false,false] A0Y=some (.loop A4Y):=G4
def A4Z:Tr:=nA 1 3 0 (.lt 3 (.bin .sub) [h 1 3,jI 1]<|bJ 0 4 5 (.lt 8 (.get 2 1) [h 0 12,h 4 3]<|.br 6 (.lt 3 (.bin .sub) [h 1 3,jI 1]<|.ret [jI (-1),h 0 12,h 7 3,h 2 3]) (.ret [jI 0,h 0 12,h 1 3,h 2 3]))) (.ret [jI 0,h 0 12,h 1 3,h 2 3])
def A0X:List U->Nat
 | [u_rows,.int .i64 first,.int .i64 last]=>(match R5 rRw u_rows with|some rows=>first.toNat|none=>0)
 | _=>0
def A0W(rows:(Option (List ((Option (List (Int×Int×Int×Int×Int×Int×Int×Int×Int×Int×Int×Int)))×Bool))))(first:Int)(last:Int):A0X [C9 rRw rows,.int .i64 first,.int .i64 last]=first.toNat:=by
 simp only[A0X,J3]
def A6r{G}(k:R0 G):∀ (E:Nat->U) (base:Nat),@N6 ⟨E,G⟩ prog base gl f35.ntmps A4Y (M4 prog gl n0 13 A4c ES):=by
 refine W8 (dep:=60) (f:=35) (n0:=n0) (nB:=13) (H0:=H0) A0X A4Z (cxg (A7f.2 k) (CG k)) k func35 A4b A4a G4 G4 G4 ?_;intro us d outs g;have n:=g;unfold ES at g;split at g
 .skip;rename_i m first last
  have c:=B9.1 g;clear g;obtain⟨rows,b,g⟩:=c;replace b:=M0 b;subst b;split at g
  .rename_i l;clear g n;refine⟨rfl,?_⟩;unfold A4Z;refine s0 (.cons 2 _ (.cons 1 _ (.cons 0 _ (.nil)))) rfl (by simp[Ev.ok,Ev.len]) ?_;refine s1 (jP _ _ _) rfl rfl rfl ?_;refine s5 rfl (fun g0=>?_) fun g0=>?_
   .refine s7 [.int .i64 _,C9 rRw _,.int .i64 _,.int .i64 _] rfl ?_;refine D3 (d:=0) ?_;rw[tJ rows first last l];first|(rw[A0s ‹_› A0];done)|(rw[TB ‹_› ‹_›];done)
   first|refine s1 (aD (D0 A0 A0)) rfl rfl rfl ?_|refine s1 (cU _ _ _) rfl rfl rfl ?_
   refine s1 (G7 rfl) rfl rfl rfl ?_;refine s5 rfl (fun g1=>?_) fun g1=>?_
   .refine s8 ?_;first|omega|(simp_all;done)|(simp_all;omega)
   refine s1 (u:=.bool _) (B8 rfl A0 A0 rfl) rfl rfl rfl ?_;refine s5B rfl (fun g2=>?_) fun g2=>?_
   .refine s7 [.int .i64 _,C9 rRw _,.int .i64 _,.int .i64 _] rfl ?_;refine D3 (d:=0) ?_;rw[tJ rows first last l];first|(rw[A0s ‹_› A0];done)|(rw[TB ‹_› ‹_›];done)
   first|refine s1 (aD (D0 A0 A0)) rfl rfl rfl ?_|refine s1 (cU _ _ _) rfl rfl rfl ?_
   refine s7 [.int .i64 _,C9 rRw _,.int .i64 _,.int .i64 _] rfl ?_;refine F0 ?_ ?_
   .rw[tJ rows first last l,A2i ‹_› ‹_›];exact tJ _ _ _ ⟨A0,A0,l.2.2⟩
   .rw[A0W,A0W];omega
  .cases g
 .cases g
noncomputable def A5P:List LpE:=(35,([true,true,false,false],M4 prog gl n0 13 A4c ES))::A5N
def OG{G}(b:R0 G):e9 prog G gl A5P:=.cons func35 A4b A4a (A6r b) (CG b)
noncomputable def A7e:aY:=⟨_,fun b=>.nil⟩
def ER:List U->Option (Nat×List U)
 | [u_rows,.int .i64 first,.int .i64 last]=>(R5 rRw u_rows).bind fun rows=>if 0<=last/\last<((el rows).length:Int)/\((el rows).length:Int)<=1000000 then some (0,[.int .i64 first,.int .i64 (aJ (el rows) last)])else none
 | _=>none
def tI(rows:(Option (List ((Option (List (Int×Int×Int×Int×Int×Int×Int×Int×Int×Int×Int×Int)))×Bool))))(first:Int)(last:Int)(b:0<=last/\last<((el rows).length:Int)/\((el rows).length:Int)<=1000000):ER [C9 rRw rows,.int .i64 first,.int .i64 last]=some (0,[.int .i64 first,.int .i64 (aJ (el rows) last)]):=by
 simp only[ER,J3,G2];exact B0 b
def A4X:U5:=⟨[(0,dat 14 0 12),(4,h 1 3),(5,h 2 3),(26,junk),(27,junk),(28,junk),(29,junk),(30,junk)],[(14,.frz)],3,[⟨.exit 2,[(4,h 0 3),(5,h 1 3)],[],2⟩]⟩
noncomputable def A0V:Code:=(f35.body).getD .skip
noncomputable def A4T:Code:=match H8 [true,true,true,false,false] A0V with|some (.loop x)=>x|_=>.skip
def A4W:f35.body=some A0V:=rfl
def A4V:H8 [true,true,true,false,false] A0V=some (.loop A4T):=G4
def oX(a0:Nat)(b:Nat)(d c:Tr):Tr:=.lt 3 (.len) [h 0 12]<|.lt 8 (.bin .lss) [h a0 3,h b 3]<|.br (b+1) d c
def A4U:Tr:=bJ 0 2 3 (.lt 8 (.get 2 1) [h 0 12,h 2 3]<|.br 4 (.lt 3 (.bin .add) [h 2 3,jI 1]<|oX 5 6 (.lt 3 (.bin .add) [h 2 3,jI 1]<|.ret [jI (-1),h 0 12,h 1 3,h 8 3]) (.ret [jI 0,h 1 3,h 2 3])) (.ret [jI 0,h 1 3,h 2 3]))
def A0U:List U->Nat
 | [u_rows,.int .i64 first,.int .i64 last]=>(match R5 rRw u_rows with|some rows=>(((el rows).length:Int)-last).toNat|none=>0)
 | _=>0
def A0T(rows:(Option (List ((Option (List (Int×Int×Int×Int×Int×Int×Int×Int×Int×Int×Int×Int)))×Bool))))(first:Int)(last:Int):A0U [C9 rRw rows,.int .i64 first,.int .i64 last]=(((el rows).length:Int)-last).toNat:=by
 simp only[A0U,J3]
def A6q{G}(l:R0 G):∀ (E:Nat->U) (base:Nat),@N6 ⟨E,G⟩ prog base gl f35.ntmps A4T (M4 prog gl n0 15 A4X ER):=by
 refine W8 (dep:=60) (f:=35) (n0:=n0) (nB:=15) (H0:=H0) A0U A4U (cxg (A7e.2 l) (OG l)) l func35 A4W A4V G4 G4 G4 ?_;intro us d outs g;have n:=g;unfold ER at g;split at g
 .skip;rename_i m first last
  have c:=B9.1 g;clear g;obtain⟨rows,b,g⟩:=c;replace b:=M0 b;subst b;split at g
  .rename_i k;clear g n;refine⟨rfl,?_⟩;unfold A4U;refine s0 (.cons 2 _ (.cons 1 _ (.cons 0 _ (.nil)))) rfl (by simp[Ev.ok,Ev.len]) ?_;refine s1 (G7 rfl) rfl rfl rfl ?_;refine s5 rfl (fun g0=>?_) fun g0=>?_
   .refine s8 ?_;first|omega|(simp_all;done)|(simp_all;omega)
   refine s1 (u:=.bool _) (B8 rfl A0 A0 rfl) rfl rfl rfl ?_;refine s5B rfl (fun g1=>?_) fun g1=>?_
   .refine s7 [.int .i64 _,.int .i64 _,.int .i64 _] rfl ?_;refine D3 (d:=0) ?_;rw[tI rows first last k];first|(rw[HU k.1 (.inl ‹_›)];done)|(rw[HU k.1 (.inr ‹_›)];done)
   first|refine s1 (D2 (D0 A0 A0)) rfl rfl rfl ?_|refine s1 (E5 _ _ _) rfl rfl rfl ?_
   refine s1 (G8 _ _) rfl rfl rfl ?_;refine s1 (J6 _ _ _) rfl rfl rfl ?_;refine s5 rfl (fun g2=>?_) fun g2=>?_
   .refine s7 [.int .i64 _,.int .i64 _,.int .i64 _] rfl ?_;refine D3 (d:=0) ?_;rw[tI rows first last k];first|(rw[HU k.1 (.inl ‹_›)];done)|(rw[HU k.1 (.inr ‹_›)];done)
   first|refine s1 (D2 (D0 A0 A0)) rfl rfl rfl ?_|refine s1 (E5 _ _ _) rfl rfl rfl ?_
   refine s7 [.int .i64 _,C9 rRw _,.int .i64 _,.int .i64 _] rfl ?_;refine F0 ?_ ?_
   .rw[tI rows first last k,A2U k.1 ‹_› ‹_›];exact tI _ _ _ ⟨A0,A0,k.2.2⟩
   .rw[A0T,A0T];omega
  .cases g
 .cases g
noncomputable def A5O:List LpE:=(35,([true,true,true,false,false],M4 prog gl n0 15 A4X ER))::A5P
def oP{G}(b:R0 G):e9 prog G gl A5O:=.cons func35 A4W A4V (A6q b) (OG b)
noncomputable def A7g:aY:=⟨_,fun b=>.nil⟩
def wS:List U->Option (Nat×List U)
 | [u_rows,.int .i64 i]=>(R5 rRw u_rows).bind fun rows=>if 0<=i/\i<((el rows).length:Int)/\((el rows).length:Int)<=1000000 then some (0,[.int .i64 (gN (el rows) i),.int .i64 (aJ (el rows) i)])else none
 | _=>none
def yF(rows:(Option (List ((Option (List (Int×Int×Int×Int×Int×Int×Int×Int×Int×Int×Int×Int)))×Bool))))(i:Int)(b:0<=i/\i<((el rows).length:Int)/\((el rows).length:Int)<=1000000):wS [C9 rRw rows,.int .i64 i]=some (0,[.int .i64 (gN (el rows) i),.int .i64 (aJ (el rows) i)]):=by
 simp only[wS,J3,G2];exact B0 b
def A4d:Tr:=.fn ES [h 0 12,h 1 3,h 1 3] 3<|.fn ER [h 2 12,h 3 3,h 4 3] 2<|.ret [h 5 3,h 6 3]
def AI{G}(g:R0 G):t6 prog G 35 [.s 12,.s 3] wS [.s 3,.s 3]:=by
 refine M5 (d:=60) A4d (cxg (A7g.2 g) (oP g)) g ⟨f35,_,func35,rfl⟩ G4 G4 ?_;intro us outs f;unfold wS at f;split at f
 .skip;rename_i k i;have c:=B9.1 f;clear f;obtain⟨rows,b,f⟩:=c;replace b:=M0 b;subst b;split at f
  .rename_i l;cases f;unfold A4d;refine s0 (.cons 1 _ (.cons 0 _ (.nil))) rfl (by simp[Ev.ok,Ev.len]) ?_;refine s3 (tJ _ _ _ l) rfl ?_;show Tr.sav _ _ (.cons 4 _ (.cons 3 _ (.cons 2 _ _)));refine s32 (tI _ _ _ l) rfl rfl ?_;refine s7 [.int .i64 _,.int .i64 _] rfl ?_;rfl
  .cases f
 .cases f
def KR{l:List Cel}(h:kE l=0):2<=(l.length:Int)/\(l.length:Int)<=80:=by
 by_cases b:(l.length:Int)<2∨80<(l.length:Int)
 .rw[uN b]at h;cases h
 .omega
def aE{rows:Option (List Row)}(h:U1 rows=0):0<((el rows).length:Int)/\((el rows).length:Int)<=140/\∀ r ∈ el rows,kE (el r.1)=0/\((el r.1).length:Int)=N5 rows:=by
 unfold U1 at h;split at h
 .cases h
 .rename_i d;split at h
  .cases h
  .rename_i b;refine⟨A0,A0,fun r hr=>?_⟩;have h3:qD (N5 rows) r=false:=by
    cases c:qD (N5 rows) r with
    | false=>rfl
    | true=>exact absurd (W1.2 ⟨r,hr,c⟩) b
   unfold qD at h3;rw[Y9,decide_eq_false_iff_not,decide_eq_false_iff_not]at h3;exact⟨Q6.1 h3.1,Q6.1 h3.2⟩
def cW{rows:Option (List Row)}(h:U1 rows=0):2<=N5 rows/\N5 rows<=80:=by
 obtain⟨b,c,h3⟩:=aE h;have hm:(el rows).getD 0 default ∈ el rows:=x3 (i:=0) C8 b
 have:=h3 _ hm
 have:=KR this.1;omega
def vP(rows:Option (List Row)):(U1 rows≠0∨(2<=N5 rows/\N5 rows<=80/\0<((el rows).length:Int)/\((el rows).length:Int)<=140))/\N5 rows=((el ((el rows).getD (0:Int).toNat default).1).length:Int):=by
 refine⟨?_,rfl⟩;by_cases h:U1 rows=0
 .have:=cW h;have:=aE h;exact .inr ⟨A0,A0,A0,A0⟩
 .exact .inl h
def aI(rows:Option (List Row))(e r c:Int):Int:=if U1 rows≠0 then U1 rows else if 0<=r/\r<((el rows).length:Int)/\0<=c/\c<=N5 rows-e then 0 else 2
def ifE(e a:Int):Int:=if e=0 then a else 0
def T4{rows:Option (List Row)}{c:Int}(h:U1 rows≠0):aI rows e r c=U1 rows:=B0 h
def S9{rows:Option (List Row)}{c:Int}(h:¬U1 rows≠0)(b:¬(0<=r/\r<((el rows).length:Int)/\0<=c/\c<=N5 rows-e)):aI rows e r c=2:=by unfold aI;rw[A9 h,A9 b]
def O6{rows:Option (List Row)}{c:Int}(h:¬U1 rows≠0)(b:0<=r/\r<((el rows).length:Int)/\0<=c/\c<=N5 rows-e):aI rows e r c=0:=by unfold aI;rw[A9 h,B0 b]
def A2W(rows:Option (List Row))(r c:Int):List U:=[.int .i64 (ifE (aI rows 0 r c) (gN (el rows) r)),.int .i64 0,.int .i64 (ifE (aI rows 0 r c) (aJ (el rows) r)),.int .i64 (ifE (aI rows 0 r c) (N5 rows)),.int .i64 (aI rows 0 r c)]
def cP{rows:Option (List Row)}{c:Int}(h:aI rows 0 r c=e)(he:e≠0):[U.int .i64 0,U.int .i64 0,U.int .i64 0,U.int .i64 0,U.int .i64 e]=A2W rows r c:=by
 unfold A2W ifE;rw[h,A9 he,A9 he,A9 he]
def rA{rows:Option (List Row)}{c:Int}(h:aI rows 0 r c=0):[U.int .i64 (gN (el rows) r),U.int .i64 0,U.int .i64 (aJ (el rows) r),U.int .i64 (N5 rows),U.int .i64 0]=A2W rows r c:=by
 unfold A2W ifE;rw[h,B0 rfl,B0 rfl,B0 rfl]
noncomputable def A7d:aY:=⟨_,fun b=>(.cons (eF b) (.cons (AI b) .nil))⟩
def A4R:List U->Option (Nat×List U)
 | [u_rows,.int .i64 r,.int .i64 c]=>(R5 rRw u_rows).bind fun rows=>if mO rows then some (0,[.int .i64 (ifE (aI rows 0 r c) (gN (el rows) r)),.int .i64 (0),.int .i64 (ifE (aI rows 0 r c) (aJ (el rows) r)),.int .i64 (ifE (aI rows 0 r c) (N5 rows)),.int .i64 (aI rows 0 r c)])else none
 | _=>none
def iI:Tr:=.ret [jI 0,jI 0,jI 0,jI 0,jI 2]
def lE(a0:Nat)(b:Nat)(a2:Nat)(d c:Tr):Tr:=.lt 8 (.bin .leq) [h a0 3,h b 3]<|.lt 8 (.un .not) [h a2 8]<|.br (a2+1) d c
def lF(a0:Int)(b:Nat)(a2:Nat)(d c:Tr):Tr:=.dt 22 (.get 2 0) [h 0 12,jI 0]<|.lt 3 (.len) [h a2 22]<|.lt 3 (.bin .sub) [h (a2+1) 3,jI a0]<|.lt 8 (.bin .geq) [h b 3,jI 0]<|.br (a2+3) d c
def sN(a0:Nat)(b c:Tr):Tr:=.fn LI [h 0 12] 1<|.lt 8 (.bin .neq) [h a0 3,jI 0]<|.br (a0+1) b c
def A4Q:Tr:=sN 3 (bH 3 5 (.ret [jI 0,jI 0,jI 0,jI 0,h 3 3]) (.fn wS [h 0 12,h 1 3] 2<|Z5 0 8 (.dt 22 (.get 2 0) [h 0 12,jI 0]<|.lt 3 (.len) [h 9 22]<|.ret [h 6 3,jI 0,h 7 3,h 10 3,jI 0]))) (Z5 0 5 (lF 0 1 6 (oX 1 10 (cD 2 12 0 (lE 2 8 13 iI (.fn wS [h 0 12,h 1 3] 2<|Z5 0 17 (.dt 22 (.get 2 0) [h 0 12,jI 0]<|.lt 3 (.len) [h 18 22]<|.ret [h 15 3,jI 0,h 16 3,h 19 3,jI 0]))) iI) iI) iI))
def A4S{G}(k:R0 G):t6 prog G 20 [.s 12,.a [3,3]] A4R [.a [3,3],.a [3,3],.s 3]:=by
 refine M5 (d:=60) A4Q (cxg (A7d.2 k) (oP k)) k ⟨f20,_,func20,rfl⟩ G4 G4 ?_;intro us outs g;unfold A4R at g;split at g
 .skip;rename_i m r c;have f:=B9.1 g;clear g;obtain⟨rows,b,g⟩:=f;replace b:=M0 b;subst b;split at g
  .rename_i n;cases g;have l:=vP rows;unfold A4Q;refine s0 (.cons 2 _ (.cons 1 _ (.cons 0 _ (.nil)))) rfl (by simp[Ev.ok,Ev.len]) ?_;refine s31 (tE _ n) rfl ?_;refine s1 (L6 _ _ _) rfl rfl rfl ?_;refine s4 rfl (fun g0=>?_) fun g0=>?_
   .refine s1 (L6 _ _ _) rfl rfl rfl ?_;refine s4 rfl (fun g1=>?_) fun g1=>?_
    .refine s7 [.int .i64 _,.int .i64 _,.int .i64 _,.int .i64 _,.int .i64 _] rfl ?_;first|exact cP (T4 ‹_›) ‹_›|exact cP (S9 ‹_› A0) C8|exact(by rw[<- l.2];exact rA (O6 ‹_› A0))
    refine s32 (yF _ _ ⟨A0,A0,A0⟩) rfl rfl ?_;refine s1 (G7 rfl) rfl rfl rfl ?_;refine s5 rfl (fun g2=>?_) fun g2=>?_
    .refine s8 ?_;omega
    refine s2 (r:=rCl) (B8 rfl A0 A0 rfl) rfl rfl ?_;refine s1 (G8 _ _) rfl rfl rfl ?_;refine s7 [.int .i64 _,.int .i64 _,.int .i64 _,.int .i64 _,.int .i64 _] rfl ?_;first|exact cP (T4 ‹_›) ‹_›|exact cP (S9 ‹_› A0) C8|exact(by rw[<- l.2];exact rA (O6 ‹_› A0))
   refine s1 (G7 rfl) rfl rfl rfl ?_;refine s5 rfl (fun g1=>?_) fun g1=>?_
   .refine s8 ?_;omega
   refine s2 (r:=rCl) (B8 rfl A0 A0 rfl) rfl rfl ?_;refine s1 (G8 _ _) rfl rfl rfl ?_;first|refine s1 (aD (D0 A0 A0)) rfl rfl rfl ?_|refine s1 (cU _ _ _) rfl rfl rfl ?_
   refine s1 (O1 _ _ _) rfl rfl rfl ?_;refine s5 rfl (fun g2=>?_) fun g2=>?_
   .refine s7 [.int .i64 _,.int .i64 _,.int .i64 _,.int .i64 _,.int .i64 _] rfl ?_;first|exact cP (T4 ‹_›) ‹_›|exact cP (S9 ‹_› A0) C8|exact(by rw[<- l.2];exact rA (O6 ‹_› A0))
   refine s1 (G8 _ _) rfl rfl rfl ?_;refine s1 (J6 _ _ _) rfl rfl rfl ?_;refine s5 rfl (fun g3=>?_) fun g3=>?_
   .refine s7 [.int .i64 _,.int .i64 _,.int .i64 _,.int .i64 _,.int .i64 _] rfl ?_;first|exact cP (T4 ‹_›) ‹_›|exact cP (S9 ‹_› A0) C8|exact(by rw[<- l.2];exact rA (O6 ‹_› A0))
   refine s1 (O1 _ _ _) rfl rfl rfl ?_;refine s5 rfl (fun g4=>?_) fun g4=>?_
   .refine s7 [.int .i64 _,.int .i64 _,.int .i64 _,.int .i64 _,.int .i64 _] rfl ?_;first|exact cP (T4 ‹_›) ‹_›|exact cP (S9 ‹_› A0) C8|exact(by rw[<- l.2];exact rA (O6 ‹_› A0))
   refine s1 (bM _ _ _) rfl rfl rfl ?_;refine s1 (bG _) rfl rfl rfl ?_;refine s4 rfl (fun g5=>?_) fun g5=>?_
   .refine s7 [.int .i64 _,.int .i64 _,.int .i64 _,.int .i64 _,.int .i64 _] rfl ?_;first|exact cP (T4 ‹_›) ‹_›|exact cP (S9 ‹_› A0) C8|exact(by rw[<- l.2];exact rA (O6 ‹_› A0))
   refine s32 (yF _ _ ⟨A0,A0,A0⟩) rfl rfl ?_;refine s1 (G7 rfl) rfl rfl rfl ?_;refine s5 rfl (fun g6=>?_) fun g6=>?_
   .refine s8 ?_;omega
   refine s2 (r:=rCl) (B8 rfl A0 A0 rfl) rfl rfl ?_;refine s1 (G8 _ _) rfl rfl rfl ?_;refine s7 [.int .i64 _,.int .i64 _,.int .i64 _,.int .i64 _,.int .i64 _] rfl ?_;first|exact cP (T4 ‹_›) ‹_›|exact cP (S9 ‹_› A0) C8|exact(by rw[<- l.2];exact rA (O6 ‹_› A0))
  .cases g
 .cases g
end Go.Proofs.YtdkdbjgkedahfaaGreatDoor
namespace Go.Proofs
open Go.Shelf
def Tryz.lays151_ren:Go.Shelf.Ren:=⟨fun|151=>65|152=>112|137=>164|119=>165|224=>166|225=>167|217=>194|266=>227|n=>n,fun|9=>9|21=>21|4=>4|3=>3|5=>5|0=>0|46=>107|n=>n,fun|n=>n⟩
def Tryz.lays151:Go.Proofs.Lays.n151 Tryz.prog Tryz.lays151_ren:={
 mixed:=G4
 f119:=hY Tryz.func165
 f137:=hY Tryz.func164
 f151:=hY Tryz.func65
 f152:=hY Tryz.func112
 f217:=hY Tryz.func194
 f224:=hY Tryz.func166
 f225:=hY Tryz.func167
 f266:=hY Tryz.func227
 t0:=Tryz.underlying0
 a0:=Tryz.isAgg0
 z0:=Tryz.sizeOf0
 v0:=Tryz.zeroValue0
 t3:=Tryz.underlying3
 a3:=Tryz.isAgg3
 z3:=Tryz.sizeOf3
 v3:=Tryz.zeroValue3
 t4:=Tryz.underlying4
 a4:=Tryz.isAgg4
 z4:=Tryz.sizeOf4
 v4:=Tryz.zeroValue4
 t5:=Tryz.underlying5
 a5:=Tryz.isAgg5
 z5:=Tryz.sizeOf5
 v5:=Tryz.zeroValue5
 t9:=Tryz.underlying9
 a9:=Tryz.isAgg9
 z9:=Tryz.sizeOf9
 v9:=Tryz.zeroValue9
 t21:=Tryz.underlying21
 a21:=Tryz.isAgg21
 z21:=Tryz.sizeOf21
 v21:=Tryz.zeroValue21
 t46:=Tryz.underlying107
 a46:=Tryz.isAgg107
 z46:=Tryz.sizeOf107
 v46:=Tryz.zeroValue107 }
open Go.RowKit Go.Lib in
def Tryz.strings_ContainsRune_ascii(s:ByteArray)(r:Int)(w:World)(b:0<=r)(c:r<128) :
  Calls Tryz.prog 65 #[.string s,.int .i32 r] w fun e w'=>e=.returned (.bool (decide (0<=Lib.indexByte s.data.toList r.toNat.toUInt8)))/\w'=w:=Any.strings_ContainsRune_ascii Tryz.lays151 s r w b c
def Tryz.lays105_ren:Go.Shelf.Ren:=⟨fun|105=>22|212=>44|99=>38|165=>45|166=>46|170=>47|169=>37|263=>66|264=>67|206=>61|240=>64|241=>68|276=>111|277=>113|n=>n,fun|9=>9|3=>3|4=>4|20=>20|0=>0|46=>107|109=>108|5=>5|72=>95|76=>111|51=>140|146=>141|53=>143|148=>144|70=>92|37=>93|75=>104|127=>137|164=>186|80=>97|n=>n,fun|n=>n⟩
def Tryz.lays105:Go.Proofs.Lays.n105 Tryz.prog Tryz.lays105_ren:={
 mixed:=G4
 f99:=hY Tryz.func38
 f105:=hY Tryz.func22
 f165:=hY Tryz.func45
 f166:=hY Tryz.func46
 f169:=hY Tryz.func37
 f170:=hY Tryz.func47
 f206:=hY Tryz.func61
 f212:=hY Tryz.func44
 f240:=hY Tryz.func64
 f241:=hY Tryz.func68
 f263:=hY Tryz.func66
 f264:=hY Tryz.func67
 f276:=hY Tryz.func111
 f277:=hY Tryz.func113
 t0:=Tryz.underlying0
 a0:=Tryz.isAgg0
 z0:=Tryz.sizeOf0
 v0:=Tryz.zeroValue0
 t3:=Tryz.underlying3
 a3:=Tryz.isAgg3
 z3:=Tryz.sizeOf3
 v3:=Tryz.zeroValue3
 t4:=Tryz.underlying4
 a4:=Tryz.isAgg4
 z4:=Tryz.sizeOf4
 v4:=Tryz.zeroValue4
 t5:=Tryz.underlying5
 a5:=Tryz.isAgg5
 z5:=Tryz.sizeOf5
 v5:=Tryz.zeroValue5
 t9:=Tryz.underlying9
 a9:=Tryz.isAgg9
 z9:=Tryz.sizeOf9
 v9:=Tryz.zeroValue9
 t20:=Tryz.underlying20
 a20:=Tryz.isAgg20
 z20:=Tryz.sizeOf20
 v20:=Tryz.zeroValue20
 t37:=Tryz.underlying93
 a37:=Tryz.isAgg93
 z37:=Tryz.sizeOf93
 v37:=Tryz.zeroValue93
 t46:=Tryz.underlying107
 a46:=Tryz.isAgg107
 z46:=Tryz.sizeOf107
 v46:=Tryz.zeroValue107
 t51:=Tryz.underlying140
 a51:=Tryz.isAgg140
 z51:=Tryz.sizeOf140
 v51:=Tryz.zeroValue140
 t53:=Tryz.underlying143
 a53:=Tryz.isAgg143
 z53:=Tryz.sizeOf143
 v53:=Tryz.zeroValue143
 t70:=Tryz.underlying92
 a70:=Tryz.isAgg92
 z70:=Tryz.sizeOf92
 v70:=Tryz.zeroValue92
 t72:=Tryz.underlying95
 a72:=Tryz.isAgg95
 z72:=Tryz.sizeOf95
 v72:=Tryz.zeroValue95
 t75:=Tryz.underlying104
 a75:=Tryz.isAgg104
 z75:=Tryz.sizeOf104
 v75:=Tryz.zeroValue104
 t76:=Tryz.underlying111
 a76:=Tryz.isAgg111
 z76:=Tryz.sizeOf111
 v76:=Tryz.zeroValue111
 t109:=Tryz.underlying108
 a109:=Tryz.isAgg108
 z109:=Tryz.sizeOf108
 v109:=Tryz.zeroValue108
 t127:=Tryz.underlying137
 a127:=Tryz.isAgg137
 z127:=Tryz.sizeOf137
 v127:=Tryz.zeroValue137
 t146:=Tryz.underlying141
 a146:=Tryz.isAgg141
 z146:=Tryz.sizeOf141
 v146:=Tryz.zeroValue141
 t148:=Tryz.underlying144
 a148:=Tryz.isAgg144
 z148:=Tryz.sizeOf144
 v148:=Tryz.zeroValue144
 t164:=Tryz.underlying186
 a164:=Tryz.isAgg186
 z164:=Tryz.sizeOf186
 v164:=Tryz.zeroValue186 }
def Tryz.Builder_Extra_105:Builder.Extra Tryz.prog Tryz.lays105_ren:={
 sizeBuilder:=G4
 liesBuilder:=G4
 t5:=Tryz.underlying5
 a5:=Tryz.isAgg5
 z5:=Tryz.sizeOf5
 v5:=Tryz.zeroValue5
 infoByte:=G4
 cellsByte:=G4
 sizeByte:=G4
 neB5:=by decide }
open Go.RowKit Go.Lib in
def Tryz.strings_Repeat(s:ByteArray)(c:Nat)(w:World)(b:c<=9223372036854775807)(hlen:s.size*c<=140737488355328) :
  Calls Tryz.prog 22 #[.string s,.int .i64 c] w fun e w'=>e=.returned (.string ⟨(Lib.repeatL s.data.toList c).toArray⟩)/\Below w.heap.size w w':=Any.strings_Repeat Tryz.lays105 Tryz.Builder_Extra_105 s c w b hlen
end Go.Proofs
namespace Go.Proofs.YtdkdbjgkedahfaaGreatDoor
open Go Go.Sx Go.Proofs.Tryz
variable {i:Int}
def NH:List U->Option (Nat×List U)
 | [.str s,.int .i32 r]=>if 0<=r/\r<128 then some (0,[.bool ((decide (0<=Lib.indexByte s (UInt8.ofNat r.toNat))))])else none
 | _=>none
def TN(s:V3)(r:Int)(b:0<=r/\r<128):NH [.str s,.int .i32 r]=some (0,[.bool ((decide (0<=Lib.indexByte s (UInt8.ofNat r.toNat))))]):=B0 b
def A69{G}(f:R0 G):t6 prog G 65 [.s 9,.s 2] NH [.s 8]:=by
 intro us outs w vs R c b n m;unfold NH at b;split at b
 .skip;rename_i s r;split at b
  .rename_i d;cases b;have g:=fU (vs2:=[.string ⟨⟨s⟩⟩,.int .i32 r]) c rfl;subst g;refine TP (vr:=[.bool (decide (0<=Lib.indexByte s (UInt8.ofNat r.toNat)))]) func65 rfl G4 rfl ?_;exact(Tryz.strings_ContainsRune_ascii ⟨⟨s⟩⟩ r w d.1 d.2).mono fun e w' ⟨k,l⟩=>⟨k,by subst l;exact RowKit.Below.refl _ _⟩
  .cases b
 .cases b
def EA:∀ {r:List Cel} {l v:Cel},eX r l=some v->∀ i,i<r.length->¬WI (r.getD i default) (if i=0 then l else r.getD (i-1) default)
 | [],l,v,_,i,hi=>by simp at hi
 | c::r,l,v,h,i,hi=>by
   rw[eX]at h;split at h
   .cases h
   .rename_i b;cases i with
    | zero=>exact b
    | succ i =>
      have:=EA h i (by simpa using hi);cases i with
      | zero=>exact this
      | succ i=>exact this
def DZ{l:List Cel}(h:kE l=0)(f:0<=i)(g:i<(l.length:Int)):A1R (l.getD i.toNat default)=0/\(wdC (l.getD i.toNat default)=2->0<i/\wdC (l.getD (i-1).toNat default)=1):=by
 unfold kE at h;split at h
 .cases h
 .cases c:eX l (0,0,0,0,0,0,0,0,0,0,0,0)with
  | none=>rw[c]at h;cases h
  | some v =>
    have:=EA c i.toNat A0;by_cases d:i.toNat=0
    .rw[B0 d]at this;refine⟨Y2 fun e=>this (.inl e),fun b=>?_⟩;exact absurd (.inr (.inl (by rw[b];decide))) this
    .rw[A9 d]at this;have e:i.toNat-1=(i-1).toNat:=A0;rw[e]at this;refine⟨Y2 fun e=>this (.inl e),fun b=>⟨A0,Y2 fun e=>this (.inr (.inl (by rw[b,U2 e];decide)))⟩⟩
def A0x{c:Cel}(h:A1R c=0):S7 c.1 c.2.1 c.2.2.1 (wdC c):=by
 unfold A1R DF at h;split at h
 .rename_i b;exact b.1
 .cases h
def OO(c:Int):sC c = -1∨(0<=c/\c<=1114111):=by
 by_cases h:¬okU c∨c<=31∨(127<=c/\c<=159)
 .exact .inl (dZ h)
 .have:okU c:=Y2 fun e=>h (.inl e)
  unfold okU at this;exact .inr A0
def A0y{b m0 m1 wd:Int}(h:S7 b m0 m1 wd):(0<=b/\b<=1114111)/\(0<=m0/\m0<=1114111)/\(0<=m1/\m1<=1114111)/\0<=wd/\wd<=2:=by
 unfold S7 at h;have d:=OO b;have c:=OO m0;have h3:=OO m1;omega
def NC(l:List Cel)(i:Int):Cel:=if wdC (l.getD i.toNat default)=2 then l.getD (i-1).toNat default else l.getD i.toNat default
def rR(c:Cel):Prop:=c.1=32/\c.2.1=0/\c.2.2.1=0/\wdC c=0
instance(c:Cel):Decidable (rR c):=by unfold rR;infer_instance
def A50(n:Int):Bool:=decide (0<=Lib.indexByte [95,48,49,50,51,52,53,54,55,56,57,97,98,99,100,101,102,103,104,105,106,107,108,109,110,111,112,113,114,115,116,117,118,119,120,121,122,65,66,67,68,69,70,71,72,73,74,75,76,77,78,79,80,81,82,83,84,85,86,87,88,89,90] (UInt8.ofNat n.toNat))
def BO(l:List Cel)(i:Int):Int:=if rR (NC l i)then 0 else if 128<=(NC l i).1∨A50 (NC l i).1=true then 1 else 2
def fA{l:List Cel}{c:Cel}(he:NC l i=c)(h:rR c):BO l i=0:=by subst he;exact B0 h
def V7{l:List Cel}{c:Cel}(he:NC l i=c)(h:¬rR c)(b:128<=c.1∨A50 c.1=true):BO l i=1:=by subst he;unfold BO;rw[A9 h,B0 b]
def eZ{l:List Cel}{c:Cel}(he:NC l i=c)(h:¬rR c)(b:¬(128<=c.1∨A50 c.1=true)):BO l i=2:=by subst he;unfold BO;rw[A9 h,A9 b]
def V5{l:List Cel}(h:(l.getD i.toNat default).2.2.2.1=2):NC l i=l.getD (i-1).toNat default:=B0 h
def V4{l:List Cel}(h:¬(l.getD i.toNat default).2.2.2.1=2):NC l i=l.getD i.toNat default:=A9 h
def eN{a:Cel}{x:Bool}(h:(a.1 == 32 && (a.2.1 == 0 && (a.2.2.1 == 0 && (a.2.2.2.1 == 0 && x))))=true):rR a:=by
 simp only[J5,beq_iff_eq]at h;exact⟨h.1,h.2.1,h.2.2.1,h.2.2.2.1⟩
def M9{a:Cel}{b c d e f g m k:Int}(h:(a.1 == 32 && (a.2.1 == 0 && (a.2.2.1 == 0 && (a.2.2.2.1 == 0 && (b == b && (c == c && (d == d && (e == e && (f == f && (g == g && (m == m && (k == k && true))))))))))))=false):¬rR a:=by
 rintro⟨o,n,h3,l⟩
 have l:a.2.2.2.1=0:=l;rw[o,n,h3,l]at h;simp at h
noncomputable def A7l:aY:=⟨_,fun b=>(.cons (A69 b) .nil)⟩
def BN:List U->Option (Nat×List U)
 | [u_s,.bool wr,.int .i64 i]=>(R5 rCl u_s).bind fun s=>if kE (el s)=0/\0<=i/\i<((el s).length:Int)then some (0,[.int .i64 (BO (el s) i)])else none
 | _=>none
def IT(s:(Option (List (Int×Int×Int×Int×Int×Int×Int×Int×Int×Int×Int×Int))))(wr:Bool)(i:Int)(b:kE (el s)=0/\0<=i/\i<((el s).length:Int)):BN [C9 rCl s,.bool wr,.int .i64 i]=some (0,[.int .i64 (BO (el s) i)]):=by
 simp only[BN,J3,G2];exact B0 b
def xY(a0:Nat)(b:Nat)(a2:Nat)(d c:Tr):Tr:=.lt 3 (.get 12 0) [h b 22,h a0 3]<|.lt 3 (.get 12 1) [h b 22,h a0 3]<|.lt 3 (.get 12 2) [h b 22,h a0 3]<|.lt 3 (.get 12 3) [h b 22,h a0 3]<|.lt 3 (.get 12 4) [h b 22,h a0 3]<|.lt 3 (.get 12 5) [h b 22,h a0 3]<|.lt 3 (.get 12 6) [h b 22,h a0 3]<|.lt 3 (.get 12 7) [h b 22,h a0 3]<|.lt 3 (.get 12 8) [h b 22,h a0 3]<|.lt 3 (.get 12 9) [h b 22,h a0 3]<|.lt 3 (.get 12 10) [h b 22,h a0 3]<|.lt 3 (.get 12 11) [h b 22,h a0 3]<|.lt 8 (.bin .eql) [h a2 3,jI 2]<|.br (a2+9) d c
def A4y:Tr:=lG 0 2 3 (xY 2 0 7 (.lt 3 (.bin .sub) [h 2 3,jI 1]<|lG 0 17 18 (.lt 3 (.get 12 0) [h 0 22,h 17 3]<|.lt 3 (.get 12 1) [h 0 22,h 17 3]<|.lt 3 (.get 12 2) [h 0 22,h 17 3]<|.lt 3 (.get 12 3) [h 0 22,h 17 3]<|.lt 3 (.get 12 4) [h 0 22,h 17 3]<|.lt 3 (.get 12 5) [h 0 22,h 17 3]<|.lt 3 (.get 12 6) [h 0 22,h 17 3]<|.lt 3 (.get 12 7) [h 0 22,h 17 3]<|.lt 3 (.get 12 8) [h 0 22,h 17 3]<|.lt 3 (.get 12 9) [h 0 22,h 17 3]<|.lt 3 (.get 12 10) [h 0 22,h 17 3]<|.lt 3 (.get 12 11) [h 0 22,h 17 3]<|GU 0 19 31 32 (I0 0) (cD 19 32 128 (I0 1) (.lt 2 (.conv .i32) [h 19 3]<|.fn NH [.string ⟨⟨[95,48,49,50,51,52,53,54,55,56,57,97,98,99,100,101,102,103,104,105,106,107,108,109,110,111,112,113,114,115,116,117,118,119,120,121,122,65,66,67,68,69,70,71,72,73,74,75,76,77,78,79,80,81,82,83,84,85,86,87,88,89,90]⟩⟩,h 33 2] 1<|.br 34 (I0 1) (I0 2))))) (GU 0 4 17 32 (I0 0) (cD 4 18 128 (I0 1) (.lt 2 (.conv .i32) [h 4 3]<|.fn NH [.string ⟨⟨[95,48,49,50,51,52,53,54,55,56,57,97,98,99,100,101,102,103,104,105,106,107,108,109,110,111,112,113,114,115,116,117,118,119,120,121,122,65,66,67,68,69,70,71,72,73,74,75,76,77,78,79,80,81,82,83,84,85,86,87,88,89,90]⟩⟩,h 19 2] 1<|.br 20 (I0 1) (I0 2)))))
def A1P{G}(g:R0 G):t6 prog G 43 [.a [22,8],.s 3] BN [.s 3]:=by
 refine M5 (d:=60) A4y (cxg (A7l.2 g) (oP g)) g ⟨f43,_,func43,rfl⟩ G4 G4 ?_;intro us outs c;unfold BN at c;split at c
 .skip;rename_i o wr i;have l:=B9.1 c;clear c;obtain⟨s,b,c⟩:=l;replace b:=M0 b;subst b;split at c
  .rename_i k;cases c;have t:=KR k.1;have n:=DZ k.1 k.2.1 k.2.2;have q:=A0y (A0x n.1);have m:(el s |>.getD i.toNat default).2.2.2.1=2->0<i:=fun h=>(n.2 h).1
   have f:0<i->(0<=((el s).getD (i-1).toNat default).1/\((el s).getD (i-1).toNat default).1<=1114111):=fun h=>(A0y (A0x (DZ k.1 (i:=i-1) A0 A0).1)).1
   unfold A4y;refine s0 (.cons 2 _ (.cons 1 _ (.cons 0 _ (.nil)))) rfl (by simp[Ev.ok,Ev.len]) ?_;refine s1 (G7 rfl) rfl rfl rfl ?_;refine s5 rfl (fun g0=>?_) fun g0=>?_
   .refine s8 ?_;first|omega
   refine s1 (u:=.int .i64 _) (B8 rfl A0 A0 rfl) rfl rfl rfl ?_;refine s1 (u:=.int .i64 _) (B8 rfl A0 A0 rfl) rfl rfl rfl ?_;refine s1 (u:=.int .i64 _) (B8 rfl A0 A0 rfl) rfl rfl rfl ?_;refine s1 (u:=.int .i64 _) (B8 rfl A0 A0 rfl) rfl rfl rfl ?_;refine s1 (u:=.int .i64 _) (B8 rfl A0 A0 rfl) rfl rfl rfl ?_;refine s1 (u:=.int .i64 _) (B8 rfl A0 A0 rfl) rfl rfl rfl ?_;refine s1 (u:=.int .i64 _) (B8 rfl A0 A0 rfl) rfl rfl rfl ?_;refine s1 (u:=.int .i64 _) (B8 rfl A0 A0 rfl) rfl rfl rfl ?_;refine s1 (u:=.int .i64 _) (B8 rfl A0 A0 rfl) rfl rfl rfl ?_;refine s1 (u:=.int .i64 _) (B8 rfl A0 A0 rfl) rfl rfl rfl ?_;refine s1 (u:=.int .i64 _) (B8 rfl A0 A0 rfl) rfl rfl rfl ?_;refine s1 (u:=.int .i64 _) (B8 rfl A0 A0 rfl) rfl rfl rfl ?_;refine s1 (P7 _ _ _) rfl rfl rfl ?_;refine s4 rfl (fun g1=>?_) fun g1=>?_
   .try have m:=m ‹_›
    first|refine s1 (aD (D0 A0 A0)) rfl rfl rfl ?_|refine s1 (cU _ _ _) rfl rfl rfl ?_
    refine s1 (G7 rfl) rfl rfl rfl ?_;refine s5 rfl (fun g2=>?_) fun g2=>?_
    .try have f:=f A0
     refine s8 ?_;first|omega
    try have f:=f A0
    refine s1 (u:=.int .i64 _) (B8 rfl A0 A0 rfl) rfl rfl rfl ?_;refine s1 (u:=.int .i64 _) (B8 rfl A0 A0 rfl) rfl rfl rfl ?_;refine s1 (u:=.int .i64 _) (B8 rfl A0 A0 rfl) rfl rfl rfl ?_;refine s1 (u:=.int .i64 _) (B8 rfl A0 A0 rfl) rfl rfl rfl ?_;refine s1 (u:=.int .i64 _) (B8 rfl A0 A0 rfl) rfl rfl rfl ?_;refine s1 (u:=.int .i64 _) (B8 rfl A0 A0 rfl) rfl rfl rfl ?_;refine s1 (u:=.int .i64 _) (B8 rfl A0 A0 rfl) rfl rfl rfl ?_;refine s1 (u:=.int .i64 _) (B8 rfl A0 A0 rfl) rfl rfl rfl ?_;refine s1 (u:=.int .i64 _) (B8 rfl A0 A0 rfl) rfl rfl rfl ?_;refine s1 (u:=.int .i64 _) (B8 rfl A0 A0 rfl) rfl rfl rfl ?_;refine s1 (u:=.int .i64 _) (B8 rfl A0 A0 rfl) rfl rfl rfl ?_;refine s1 (u:=.int .i64 _) (B8 rfl A0 A0 rfl) rfl rfl rfl ?_;refine s1 rfl rfl rfl rfl ?_;first|refine s4 rfl (fun g3=>?_) (fun g3=>?_)|refine s4B rfl (fun g3=>?_) (fun g3=>?_)
    .refine s7 [.int .i64 _] rfl ?_;refine D8 (fun z=>[U.int .i64 z]) ?_;symm;first|exact fA (V5 ‹_›) (eN ‹_›)|exact fA (V4 ‹_›) (eN ‹_›)|exact V7 (V5 ‹_›) (M9 ‹_›) (.inl ‹_›)|exact V7 (V4 ‹_›) (M9 ‹_›) (.inl ‹_›)|exact V7 (V5 ‹_›) (M9 ‹_›) (.inr (I5 ‹_›))|exact V7 (V4 ‹_›) (M9 ‹_›) (.inr (I5 ‹_›))|exact eZ (V5 ‹_›) (M9 ‹_›) (fun h=>h.elim ‹_› (fun h=>absurd (F8 h) ‹_›))|exact eZ (V4 ‹_›) (M9 ‹_›) (fun h=>h.elim ‹_› (fun h=>absurd (F8 h) ‹_›))
    refine s1 (O1 _ _ _) rfl rfl rfl ?_;refine s4 rfl (fun g4=>?_) fun g4=>?_
    .refine s7 [.int .i64 _] rfl ?_;refine D8 (fun z=>[U.int .i64 z]) ?_;symm;first|exact fA (V5 ‹_›) (eN ‹_›)|exact fA (V4 ‹_›) (eN ‹_›)|exact V7 (V5 ‹_›) (M9 ‹_›) (.inl ‹_›)|exact V7 (V4 ‹_›) (M9 ‹_›) (.inl ‹_›)|exact V7 (V5 ‹_›) (M9 ‹_›) (.inr (I5 ‹_›))|exact V7 (V4 ‹_›) (M9 ‹_›) (.inr (I5 ‹_›))|exact eZ (V5 ‹_›) (M9 ‹_›) (fun h=>h.elim ‹_› (fun h=>absurd (F8 h) ‹_›))|exact eZ (V4 ‹_›) (M9 ‹_›) (fun h=>h.elim ‹_› (fun h=>absurd (F8 h) ‹_›))
    first|refine s1 (n8 (WW A0 A0)) rfl rfl rfl ?_|refine s1 (yN _ _ _) rfl rfl rfl ?_
    refine s31 (TN _ _ A0) rfl ?_;first|refine s4 rfl (fun g5=>?_) (fun g5=>?_)|refine s4B rfl (fun g5=>?_) (fun g5=>?_)
    .refine s7 [.int .i64 _] rfl ?_;refine D8 (fun z=>[U.int .i64 z]) ?_;symm;first|exact fA (V5 ‹_›) (eN ‹_›)|exact fA (V4 ‹_›) (eN ‹_›)|exact V7 (V5 ‹_›) (M9 ‹_›) (.inl ‹_›)|exact V7 (V4 ‹_›) (M9 ‹_›) (.inl ‹_›)|exact V7 (V5 ‹_›) (M9 ‹_›) (.inr (I5 ‹_›))|exact V7 (V4 ‹_›) (M9 ‹_›) (.inr (I5 ‹_›))|exact eZ (V5 ‹_›) (M9 ‹_›) (fun h=>h.elim ‹_› (fun h=>absurd (F8 h) ‹_›))|exact eZ (V4 ‹_›) (M9 ‹_›) (fun h=>h.elim ‹_› (fun h=>absurd (F8 h) ‹_›))
    refine s7 [.int .i64 _] rfl ?_;refine D8 (fun z=>[U.int .i64 z]) ?_;symm;first|exact fA (V5 ‹_›) (eN ‹_›)|exact fA (V4 ‹_›) (eN ‹_›)|exact V7 (V5 ‹_›) (M9 ‹_›) (.inl ‹_›)|exact V7 (V4 ‹_›) (M9 ‹_›) (.inl ‹_›)|exact V7 (V5 ‹_›) (M9 ‹_›) (.inr (I5 ‹_›))|exact V7 (V4 ‹_›) (M9 ‹_›) (.inr (I5 ‹_›))|exact eZ (V5 ‹_›) (M9 ‹_›) (fun h=>h.elim ‹_› (fun h=>absurd (F8 h) ‹_›))|exact eZ (V4 ‹_›) (M9 ‹_›) (fun h=>h.elim ‹_› (fun h=>absurd (F8 h) ‹_›))
   try have m:=m ‹_›
   refine s1 rfl rfl rfl rfl ?_;first|refine s4 rfl (fun g2=>?_) (fun g2=>?_)|refine s4B rfl (fun g2=>?_) (fun g2=>?_)
   .try have f:=f A0
    refine s7 [.int .i64 _] rfl ?_;refine D8 (fun z=>[U.int .i64 z]) ?_;symm;first|exact fA (V5 ‹_›) (eN ‹_›)|exact fA (V4 ‹_›) (eN ‹_›)|exact V7 (V5 ‹_›) (M9 ‹_›) (.inl ‹_›)|exact V7 (V4 ‹_›) (M9 ‹_›) (.inl ‹_›)|exact V7 (V5 ‹_›) (M9 ‹_›) (.inr (I5 ‹_›))|exact V7 (V4 ‹_›) (M9 ‹_›) (.inr (I5 ‹_›))|exact eZ (V5 ‹_›) (M9 ‹_›) (fun h=>h.elim ‹_› (fun h=>absurd (F8 h) ‹_›))|exact eZ (V4 ‹_›) (M9 ‹_›) (fun h=>h.elim ‹_› (fun h=>absurd (F8 h) ‹_›))
   try have f:=f A0
   refine s1 (O1 _ _ _) rfl rfl rfl ?_;refine s4 rfl (fun g3=>?_) fun g3=>?_
   .refine s7 [.int .i64 _] rfl ?_;refine D8 (fun z=>[U.int .i64 z]) ?_;symm;first|exact fA (V5 ‹_›) (eN ‹_›)|exact fA (V4 ‹_›) (eN ‹_›)|exact V7 (V5 ‹_›) (M9 ‹_›) (.inl ‹_›)|exact V7 (V4 ‹_›) (M9 ‹_›) (.inl ‹_›)|exact V7 (V5 ‹_›) (M9 ‹_›) (.inr (I5 ‹_›))|exact V7 (V4 ‹_›) (M9 ‹_›) (.inr (I5 ‹_›))|exact eZ (V5 ‹_›) (M9 ‹_›) (fun h=>h.elim ‹_› (fun h=>absurd (F8 h) ‹_›))|exact eZ (V4 ‹_›) (M9 ‹_›) (fun h=>h.elim ‹_› (fun h=>absurd (F8 h) ‹_›))
   first|refine s1 (n8 (WW A0 A0)) rfl rfl rfl ?_|refine s1 (yN _ _ _) rfl rfl rfl ?_
   refine s31 (TN _ _ A0) rfl ?_;first|refine s4 rfl (fun g4=>?_) (fun g4=>?_)|refine s4B rfl (fun g4=>?_) (fun g4=>?_)
   .refine s7 [.int .i64 _] rfl ?_;refine D8 (fun z=>[U.int .i64 z]) ?_;symm;first|exact fA (V5 ‹_›) (eN ‹_›)|exact fA (V4 ‹_›) (eN ‹_›)|exact V7 (V5 ‹_›) (M9 ‹_›) (.inl ‹_›)|exact V7 (V4 ‹_›) (M9 ‹_›) (.inl ‹_›)|exact V7 (V5 ‹_›) (M9 ‹_›) (.inr (I5 ‹_›))|exact V7 (V4 ‹_›) (M9 ‹_›) (.inr (I5 ‹_›))|exact eZ (V5 ‹_›) (M9 ‹_›) (fun h=>h.elim ‹_› (fun h=>absurd (F8 h) ‹_›))|exact eZ (V4 ‹_›) (M9 ‹_›) (fun h=>h.elim ‹_› (fun h=>absurd (F8 h) ‹_›))
   refine s7 [.int .i64 _] rfl ?_;refine D8 (fun z=>[U.int .i64 z]) ?_;symm;first|exact fA (V5 ‹_›) (eN ‹_›)|exact fA (V4 ‹_›) (eN ‹_›)|exact V7 (V5 ‹_›) (M9 ‹_›) (.inl ‹_›)|exact V7 (V4 ‹_›) (M9 ‹_›) (.inl ‹_›)|exact V7 (V5 ‹_›) (M9 ‹_›) (.inr (I5 ‹_›))|exact V7 (V4 ‹_›) (M9 ‹_›) (.inr (I5 ‹_›))|exact eZ (V5 ‹_›) (M9 ‹_›) (fun h=>h.elim ‹_› (fun h=>absurd (F8 h) ‹_›))|exact eZ (V4 ‹_›) (M9 ‹_›) (fun h=>h.elim ‹_› (fun h=>absurd (F8 h) ‹_›))
  .cases c
 .cases c
end Go.Proofs.YtdkdbjgkedahfaaGreatDoor
