import Derived.Test.YtbbicpheoakeeaaGreatDoorX11
import Derived.Test.YtbbicpheoakeeaaGreatDoorCards
import Derived.Test.YtbbicpheoakeeaaGreatDoorTie
import Derived.WalkKit
import Derived.ProofKit
import Derived.OpenShut
import Derived.Below
import Derived.Carry
import Derived.Lib.SmallJoins
import Derived.Deep.DeepHandedRow
import Derived.Lib.LaidTab
import Derived.MakeChecks
import Derived.Lay
import Derived.Deep.DeepWitnessRef
set_option linter.all false
set_option maxRecDepth 100000
set_option maxHeartbeats 4000000
namespace Go.Proofs.YtbbicpheoakeeaaGreatDoor
variable {t u v:B6}{d i j:Int}{b c:UInt8}{a:List B6}{k:Nat}{acc:Option (List Gt)}
section
open Go Go.Sx
def nmB(l:B6):Prop:=∀ b ∈ l,33<=b.toNat/\b.toNat<=126
def uH(h:nmB u)(k:nmB v):nmB (u++v):=fun b e=>(B7.1 e).elim (h b) (k b)
def WK{l:B6}(h:(l.all fun b=>decide (33<=b.toNat/\b.toNat<=126))=true):nmB l:=fun b e=>I7 (D0.1 h b e)
def A9Y(h0:0<=d)(h1:d<16):33<=(hU d).toNat/\(hU d).toNat<=126:=by
 have k:∀ n:Nat,n<16->33<=(hU n).toNat/\(hU n).toNat<=126:=F1
 have:=k d.toNat A2
 rwa[show((d.toNat:Nat):Int)=d by omega]at this
def A9X{l:B6}(h0:0<=d)(h1:d<16)(h:nmB l):nmB (hU d::l):=fun b e=>by
 rcases B3.1 e with rfl|e
 .exact A9Y h0 h1
 .exact h b e
def A3T:nmB []:=fun b e=>by cases e
def A7I{c:Int}(h0:0<=c)(h1:c<16777216):nmB (v7 c):=by
 unfold v7
 (repeat' split)<;>(repeat refine A9X A2 A2 ?_)<;>exact A3T
def A9p{c:Int}(h:cR c):nmB (d8 c):=by
 unfold cR at h;by_cases h1:1114113<=c
 .rw[A0T h1];have k:∀ n:Nat,n<26->((nmL.getD n []).all fun b=>decide (33<=b.toNat/\b.toNat<=126))=true:=F1;exact WK (k _ A2)
 .by_cases e:c=32
  .rw[A0U e];exact WK F1
  .by_cases h3:c<=126
   .rw[A0X h1 e h3];intro b f;obtain rfl:=R5.1 f;rw[UInt8.toNat_ofNat',V0 A2];omega
   .rw[EJ h1 e h3];exact uH (WK F1) (A7I A2 A2)
def WV{n:Int}{a:UInt8}(h:33<=a.toNat/\a.toNat<=126):nmB (mdP n a):=by
 unfold mdP;split
 .exact A3T
 .intro b e;rcases B3.1 e with rfl|e
  .exact h
  .obtain rfl:=R5.1 e;decide
def CX(x:Xt):V4 x=mdP (x.2.2.1 / 4%2*4) 67++(mdP (x.2.2.1 / 2%2*2) 77++(mdP (x.2.2.1 / 1%2*1) 83++d8 x.2.1)):=rfl
def A5I{x:Xt}(h:kyP x):nmB (V4 x):=by
 rw[CX];exact uH (WV F1) (uH (WV F1) (uH (WV F1) (A9p (HW h))))
def dsh(l:B6):Prop:=∃ a r,l=a::r/\(a≠45∨r=[])
def ZS{n:Int}{a:UInt8}{l:B6}(h:dsh l)(e:a≠45):dsh (mdP n a++l):=by
 unfold mdP;split
 .exact h
 .exact⟨a,45::l,rfl,.inl e⟩
def A9o{c:Int}(h:cR c):dsh (d8 c):=by
 unfold cR at h;by_cases h1:1114113<=c
 .rw[A0T h1];have k:∀ n:Nat,n<26->(nmL.getD n [])≠[]/\(nmL.getD n []).getD 0 0≠45:=F1
  have:=k (c-1114113).toNat A2
  match f:nmL.getD (c-1114113).toNat [],this with
  | [],k=>exact absurd rfl k.1
  | a::r,k=>exact⟨a,r,rfl,.inl k.2⟩
 .by_cases e:c=32
  .rw[A0U e];exact⟨_,_,rfl,.inl F1⟩
  .by_cases h3:c<=126
   .rw[A0X h1 e h3];exact⟨_,_,rfl,.inr rfl⟩
   .rw[EJ h1 e h3];exact⟨85,_,rfl,.inl F1⟩
def A5H{x:Xt}(h:kyP x):dsh (V4 x):=by
 rw[CX];exact ZS (ZS (ZS (A9o (HW h)) F1) F1) F1
def WP(x:Xt):(V4 x).length<=14:=by
 rw[CX];have k:∀ n a,(mdP n a).length<=2:=fun n a=>by
  unfold mdP;split
  .decide
  .exact A6 _
 have l:=k (x.2.2.1 / 4%2*4) 67;have f:=k (x.2.2.1 / 2%2*2) 77;have e:=k (x.2.2.1 / 1%2*1) 83;have g:=A0V x.2.1;simp only[D6];omega
def P4(s:B6):B6×B6×Bool:=match fx 32 s with
 | some j=>(s.take j.toNat,s.drop (j+1).toNat,true)
 | none=>(s,[],false)
def A55{s:B6}(h:fx 32 s=some j):P4 s=(s.take j.toNat,s.drop (j+1).toNat,true):=by unfold P4;rw[h]
def A56{s:B6}(h:fx 32 s=none):P4 s=(s,[],false):=by unfold P4;rw[h]
def bnR(s:B6):Bool:=decide (s.take 3=[45,114,32]/\3<s.length)
def bnA(s:B6):B6:=if bnR s=true then s.drop 3 else s
def mkG(x:Xt)(c:B6)(r:Bool):Gt:=(x.1,x.2.1,x.2.2.1,x.2.2.2.1,x.2.2.2.2.1,x.2.2.2.2.2.1,x.2.2.2.2.2.2.1,x.2.2.2.2.2.2.2,c,r)
def bnG(s:B6):Gt:=mkG (Z4 (P4 (bnA s)).1) (P4 (bnA s)).2.1 (bnR s)
def bnP(s:B6):Prop:=(P4 (bnA s)).2.2=true/\jJ (P4 (bnA s)).1=0/\(P4 (bnA s)).2.1≠[]
instance(s:B6):Decidable (bnP s):=by unfold bnP;infer_instance
def lnP(s:B6):Prop:=s.take 5=[98,105,110,100,32]/\bnP (s.drop 5)
instance(s:B6):Decidable (lnP s):=by unfold lnP;infer_instance
def kL(s:B6):Bool:=!decide (lnP s)
def lnG(s:B6):Gt:=bnG (s.drop 5)
def A5U{s:B6}(h:lnP s):kL s=false:=by unfold kL;rw[I2 h];rfl
def LW{s:B6}(h:¬lnP s):kL s=true:=by unfold kL;rw[E0 h];rfl
def rok:List B6->Bool
 | []=>false
 | [l]=>decide (l=[])
 | l::m::r=>!kL l && rok (m::r)
def rgs(l:List B6):List Gt:=l.dropLast.map lnG
def hdP(s:B6):Prop:=s.take 7=[112,114,101,102,105,120,32]/\jJ (s.drop 7)=0
instance(s:B6):Decidable (hdP s):=by unfold hdP;infer_instance
def psP(l:List B6):Prop:=hdP (l.headD [])/\rok l.tail=true
instance(l:List B6):Decidable (psP l):=by unfold psP;infer_instance
def psX(s:B6):Xt:=Z4 (((sp 10 s).headD []).drop 7)
def psL(s:B6):Option (List Gt):=y9 none (some (rgs (sp 10 s).tail))
def prE(s:B6):Int:=if 16384<s.length then 3 else if ¬psP (sp 10 s)then 6 else rW (psX s) (el (psL s))
def prX(s:B6):Xt:=if prE s=0 then psX s else X0
def prL(s:B6):Option (List Gt):=if prE s=0 then psL s else none
def A89{s:B6}(h:16384<s.length):prE s=3:=A9 h
def RV{s:B6}(h:¬16384<s.length)(e:¬psP (sp 10 s)):prE s=6:=by unfold prE;rw[A7 h,A9 e]
def A88{s:B6}(h:¬16384<s.length)(e:psP (sp 10 s)):prE s=rW (psX s) (el (psL s)):=by unfold prE;rw[A7 h,A7 fun k=>k e]
def A6b{s:B6}(h:prE s≠0):prX s=X0/\prL s=none:=⟨A7 h,A7 h⟩
def A6a{s:B6}(h:prE s=0):prX s=psX s/\prL s=psL s:=⟨A9 h,A9 h⟩
def A6R{l:B6}{r:List B6}(h:r≠[]):rok (l::r)=(!kL l && rok r):=by
 cases r with
 | nil=>exact absurd rfl h
 | cons m r=>rfl
def NU:∀ {l:List B6},rok l=true↔l.getLast? = some []/\l.dropLast.any kL=false
 | []=>by simp[rok]
 | [l]=>by simp[rok]
 | l::m::r=>by
   rw[A6R (by simp),G4,NU (l:=m::r),List.dropLast_cons₂,P0,List.getLast?_cons_cons];cases kL l<;>simp
def A34(u:B6):iB (bI u)=u:=by
 unfold iB bI;rw[iP];induction u with
 | nil=>rfl
 | cons a u e=>rw[C3,e];simp
open Go Go.Sx Go.Proofs.Tryz
def JI:List U->Option (Nat×List U)
 | [.str s,.str c]=>if c.length=1 then some (0,[.int .i64 ((Lib.countByte s (c.getD 0 0):Int))])else none
 | _=>none
def A2T(s:B6)(c:B6)(e:c.length=1):JI [.str s,.str c]=some (0,[.int .i64 ((Lib.countByte s (c.getD 0 0):Int))]):=A9 e
def A4P{G}(n:M6 G):M0 prog G 29 [.s 9,.s 9] JI [.s 3]:=by
 intro us outs w vs R g f o hR;unfold JI at f;split at f
 .skip;rename_i s c;split at f
  .rename_i l;cases f;have hv:=T8 (vs2:=[.string ⟨⟨s⟩⟩,.string ⟨⟨c⟩⟩]) g rfl;subst hv;refine fB (vr:=[.int .i64 (Lib.countByte s (c.getD 0 0))]) func29 rfl D2 rfl ?_;obtain⟨x,rfl⟩:∃ x,c=[x]:=by
    match c,l with
    | [x],_=>exact⟨x,rfl⟩
    | [],h=>cases h
    | _::_::_,h=>simp at h
   exact(Tryz.strings_Count_one ⟨⟨s⟩⟩ x w).mono fun e w' ⟨h1,m⟩=>⟨h1,by subst m;exact RowKit.Below.refl _ _⟩
  .cases f
 .cases f
def IF:List U->Option (Nat×List U)
 | [.str s,.str c]=>if c.length=1 then some (0,[.int .i64 (Lib.indexByte s (c.getD 0 0))])else none
 | _=>none
def A1w(s:B6)(c:B6)(e:c.length=1):IF [.str s,.str c]=some (0,[.int .i64 (Lib.indexByte s (c.getD 0 0))]):=A9 e
def A7E{G}(n:M6 G):M0 prog G 65 [.s 9,.s 9] IF [.s 3]:=by
 intro us outs w vs R g f o hR;unfold IF at f;split at f
 .skip;rename_i s c;split at f
  .rename_i l;cases f;have hv:=T8 (vs2:=[.string ⟨⟨s⟩⟩,.string ⟨⟨c⟩⟩]) g rfl;subst hv;refine fB (vr:=[.int .i64 (Lib.indexByte s (c.getD 0 0))]) func65 rfl D2 rfl ?_;obtain⟨x,rfl⟩:∃ x,c=[x]:=by
    match c,l with
    | [x],_=>exact⟨x,rfl⟩
    | [],h=>cases h
    | _::_::_,h=>simp at h
   exact(Tryz.strings_Index_one ⟨⟨s⟩⟩ x w).mono fun e w' ⟨h1,m⟩=>⟨h1,by subst m;exact RowKit.Below.refl _ _⟩
  .cases f
 .cases f
def A5a(s:B6)(c:UInt8) : -1<=Lib.indexByte s c/\(Lib.indexByte s c<(s.length:Int)):=by
 have h:=Lib.indexByte_ge s c;by_cases h0:0<=Lib.indexByte s c
 .have:=(MD h0).2.1;omega
 .omega
def FW{s:B6}{i:Nat}(h:Lib.indexByte s c<0):spl c k a s i=(a,s,i):=by
 cases k with
 | zero=>rfl
 | succ k=>rw[spl,A9 h]
def A09{s:B6}{n m:Int}(h0:0<=i)(h1:i<n)(hm:m=Lib.indexByte s c)(e:¬m<0):spl c (n-i).toNat a s i.toNat=spl c (n-(i+1)).toNat (a.set i.toNat ((s.drop (0:Int).toNat).take ((m+0).toNat-(0:Int).toNat))) (s.drop (m+1).toNat) (i+1).toNat:=by
 subst hm;rw[show(n-i).toNat=(n-(i+1)).toNat+1 by omega,spl,A7 e,show(Lib.indexByte s c+0).toNat=(Lib.indexByte s c).toNat by omega,show(Lib.indexByte s c+1).toNat=(Lib.indexByte s c).toNat+1 by omega,show(i+1).toNat=i.toNat+1 by omega];rfl
def PQ{a:Option (List B6)}{s:B6}(h:spl c k (el a) s i.toNat=(el a,s,i.toNat))(hi:0<=i)(e:a=some (el a)):some (0,[U.str (spl c k (el a) s i.toNat).2.1,G6 rS (some (spl c k (el a) s i.toNat).1),U.int .i64 (spl c k (el a) s i.toNat).2.2])=some (0,[U.str s,G6 rS a,U.int .i64 i]):=by
 rw[h];show some (0,[U.str s,G6 rS (some (el a)),U.int .i64 (i.toNat:Int)])=_;rw[<- e,cS hi]
noncomputable def A8N:W3:=⟨_,fun e=>(.cons (A4P e) (.cons (A7E e) .nil))⟩
def tB:List U->Option (Nat×List U)
 | [.str s,.str c,.int .i64 n,u_a,.int .i64 i]=>(Y8 rS u_a).bind fun a=>if c.length=1/\0<=i/\i<=n/\n<((el a).length:Int)/\((el a).length:Int)<=1000000000/\s.length<=1000000000/\a=some (el a)then some (0,[.str (spl (c.getD 0 0) (n-i).toNat (el a) s i.toNat).2.1,G6 rS (some (spl (c.getD 0 0) (n-i).toNat (el a) s i.toNat).1),.int .i64 (spl (c.getD 0 0) (n-i).toNat (el a) s i.toNat).2.2])else none
 | _=>none
def pZ(s:B6)(c:B6)(n:Int)(a:(Option (List B6)))(i:Int)(e:c.length=1/\0<=i/\i<=n/\n<((el a).length:Int)/\((el a).length:Int)<=1000000000/\s.length<=1000000000/\a=some (el a)):tB [.str s,.str c,.int .i64 n,G6 rS a,.int .i64 i]=some (0,[.str (spl (c.getD 0 0) (n-i).toNat (el a) s i.toNat).2.1,G6 rS (some (spl (c.getD 0 0) (n-i).toNat (el a) s i.toNat).1),.int .i64 (spl (c.getD 0 0) (n-i).toNat (el a) s i.toNat).2.2]):=by
 simp only[tB,M3,J2];exact A9 e
def A39:V6:=⟨[(0,h 0 9),(1,h 1 9),(2,.int .i64 (0)),(3,h 2 3),(9,own 18 3 11),(10,h 4 3)],[(18,.sq 3 11 9 19),(19,.frz)],5,[⟨.exit 0,[(0,h 0 9),(9,own 20 1 11),(10,h 2 3)],[(20,.sq 1 11 9 21),(21,.frz)],3⟩]⟩
noncomputable def YV:Code:=(f67.body).getD .skip
noncomputable def A35:Code:=match H7 [true,true,true,true,true,true,true,true,false,false] YV with|some (.loop x)=>x|_=>.skip
def A38:f67.body=some YV:=rfl
def A37:H7 [true,true,true,true,true,true,true,true,false,false] YV=some (.loop A35):=D2
def A36:Tr:=cC 2 4 5 (.fn IF [h 0 9,h 1 9] 1<|aL [h3 6,jI 0]<|.br 7 (.ret [jI 0,h 0 9,h 3 11,h3 4]) (aA [h3 6,jI 0]<|.lt 9 (.sub) [h 0 9,jI 0,h3 8]<|gT 3 4 10 (.dt 11 (.set 1 0) [h 3 11,h3 4,h 9 9]<|aD [h 1 9]<|aA [h3 6,h3 12]<|.lt 9 (.sub1) [h 0 9,h3 13]<|aA [h3 4,jI 1]<|.ret [jI (-1),h 14 9,h 1 9,h3 2,h 11 11,h3 15]))) (.ret [jI 0,h 0 9,h 3 11,h3 4])
def YU:List U->Nat
 | [.str s,.str c,.int .i64 n,u_a,.int .i64 i]=>(match Y8 rS u_a with|some a=>(n-i).toNat|none=>0)
 | _=>0
def YT(s:B6)(c:B6)(n:Int)(a:(Option (List B6)))(i:Int):YU [.str s,.str c,.int .i64 n,G6 rS a,.int .i64 i]=(n-i).toNat:=by
 simp only[YU,M3]
def A7K{G}(p:M6 G):∀ (E:Nat->U) (base:Nat),@W1 ⟨E,G⟩ prog base gl f67.ntmps A35 (U3 prog gl n0 22 A39 tB):=by
 refine u7 (dep:=60) (f:=67) (n0:=n0) (nB:=22) (H0:=H0) YU A36 (cxg (A8N.2 p) .nil) p func67 A38 A37 D2 D2 D2 ?_;intro us d outs l;have q:=l;unfold tB at l;split at l
 .skip;rename_i s c n w i;have o:=D9.1 l;clear l;obtain⟨a,g,l⟩:=o;replace g:=R8 g;subst g;split at l
  .rename_i m;clear l q;have y:=A5a s (c.getD 0 0);refine⟨rfl,?_⟩;unfold A36;refine w0 (.cons 4 _ (.cons 3 _ (.cons 2 _ (.cons 1 _ (.cons 0 _ (.nil)))))) ?_;refine gU ?_;refine w5 (fun g0=>?_) fun g0=>?_
   .refine w7 [.int .i64 _,.str _,G6 rS _,.int .i64 _] ?_;refine K5 (d:=0) ?_;rw[pZ _ _ _ _ _ m];refine PQ ?_ m.2.1 m.2.2.2.2.2.2;first|exact FW A2|(rw[show(n-i).toNat=0 by omega];rfl)
   refine w31 IF (e:=A1w _ _ A2) (k':=?_);refine gU ?_;refine w4 (fun g1=>?_) fun g1=>?_
   .refine w7 [.int .i64 _,.str _,G6 rS _,.int .i64 _] ?_;refine K5 (d:=0) ?_;rw[pZ _ _ _ _ _ m];refine PQ ?_ m.2.1 m.2.2.2.2.2.2;first|exact FW A2|(rw[show(n-i).toNat=0 by omega];rfl)
   first|refine jF ?_|refine aC ?_
   refine w1 (.sub) (e:=mF _ _ _ _ _ A2 A2 A2) (k':=?_);refine mR ?_;refine w5 (fun g2=>?_) fun g2=>?_
   .refine w8 ?_;first|omega|(simp_all;done)|(simp_all;omega)
   refine w2 (.set 1 0) (r:=rS) (e:=PX _ rfl (A1 rfl) A2 A2 rfl) (k':=?_);refine nC ?_;first|refine jF ?_|refine aC ?_
   refine w1 (.sub1) (e:=mE _ _ _ A2 A2) (k':=?_);first|refine jF ?_|refine aC ?_
   refine w7 [.int .i64 _,.str _,.str _,.int .i64 _,G6 rS _,.int .i64 _] ?_;refine U7 ?_ ?_
   .have x:(c.length:Int)=1:=A2;rw[x,pZ _ _ _ _ _ ⟨m.1,A2,A2,by rw[DZ,Q1];omega,by rw[DZ,Q1];omega,by rw[E4];omega,rfl⟩,pZ _ _ _ _ _ m,A09 m.2.1 g0 rfl g1];rfl
   .rw[YT,YT];omega
  .cases l
 .cases l
noncomputable def A8c:List LpE:=(67,([true,true,true,true,true,true,true,true,false,false],U3 prog gl n0 22 A39 tB))::[]
def A0t{G}(e:M6 G):y5 prog G gl A8c:=.cons func67 A38 A37 (A7K e) .nil
def TY{c:UInt8}:∀ (k:Nat) (a:List B6) (s:B6) (i:Nat),(spl c k a s i).1.length=a.length/\i<=(spl c k a s i).2.2/\(spl c k a s i).2.2<=i+k
 | 0,a,s,i=>⟨rfl,A6 _,A6 _⟩
 | k+1,a,s,i=>by
   unfold spl;split
   .exact⟨rfl,A6 _,by show i<=i+(k+1);omega⟩
   .obtain⟨h1,e,h3⟩:=TY (c:=c) k (a.set i (s.take (Lib.indexByte s c).toNat)) (s.drop ((Lib.indexByte s c).toNat+1)) (i+1);rw[Q1]at h1;exact⟨h1,A2,A2⟩
def mM(s:B6)(c:UInt8):=spl c (min (s.count c+1) (s.length+1)-1) (List.replicate (min (s.count c+1) (s.length+1)) []) s 0
def A0_(s:B6)(c:UInt8):((el (some (mM s c).1)).length:Int)=min (s.count c+1) (s.length+1)/\(mM s c).2.2<min (s.count c+1) (s.length+1):=by
 obtain⟨h1,e,h3⟩:=TY (c:=c) (min (s.count c+1) (s.length+1)-1) (List.replicate (min (s.count c+1) (s.length+1)) []) s 0;rw[S1]at h1;unfold mM el;exact⟨by show((spl _ _ _ _ _).1.length:Int)=_;omega,A2⟩
def A7L{s c:B6}(f:c.length=1)(l:s.length<=100000):tB [.str s,.str c,.int .i64 (min ((Lib.countByte s (c.getD 0 0):Int)+1) ((s.length:Int)+1)-1),G6 rS (some (List.replicate (min ((Lib.countByte s (c.getD 0 0):Int)+1) ((s.length:Int)+1)).toNat [])),.int .i64 0]=some (0,[.str (mM s (c.getD 0 0)).2.1,G6 rS (some (mM s (c.getD 0 0)).1),.int .i64 (mM s (c.getD 0 0)).2.2]):=by
 have e:(min ((Lib.countByte s (c.getD 0 0):Int)+1) ((s.length:Int)+1)).toNat=min (s.count (c.getD 0 0)+1) (s.length+1):=by unfold Lib.countByte;omega
 have g:(min ((Lib.countByte s (c.getD 0 0):Int)+1) ((s.length:Int)+1)-1-0).toNat=min (s.count (c.getD 0 0)+1) (s.length+1)-1:=A2;rw[pZ _ _ _ _ _ ⟨f,A2,A2,by rw[Q5,S1];omega,by rw[Q5,S1];omega,A2,rfl⟩,Q5,e,g];rfl
def WC(s:B6)(c:UInt8):G6 rS (jR (A1C (some (mM s c).1) ((mM s c).2.2:Int).toNat (mM s c).2.1) (0:Int).toNat ((mM s c).2.2+1:Int).toNat)=G6 rS (some (sp c s)):=by
 rw[<- vY];have e:((mM s c).2.2+1:Int).toNat=(mM s c).2.2+1:=A2;rw[e];rfl
noncomputable def A71:W3:=⟨_,fun e=>(.cons (A4P e) .nil)⟩
def zK:List U->Option (Nat×List U)
 | [.str s,.str c]=>if c.length=1/\s.length<=100000 then some (0,[G6 rS ((some (sp (c.getD 0 0) s)))])else none
 | _=>none
def A08(s:B6)(c:B6)(e:c.length=1/\s.length<=100000):zK [.str s,.str c]=some (0,[G6 rS ((some (sp (c.getD 0 0) s)))]):=A9 e
def A2t:Tr:=aE [h 1 9,.string ⟨⟨[]⟩⟩]<|.br 2 (.no) (.fn JI [h 0 9,h 1 9] 1<|aA [h3 3,jI 1]<|aD [h 0 9]<|aA [h3 5,jI 1]<|.lt 3 (.min) [h3 4,h3 6]<|.dt 11 (.rep 1) [h3 7,.string ⟨⟨[]⟩⟩]<|aS [h3 7,jI 1]<|.fn tB [h 0 9,h 1 9,h3 9,h 8 11,jI 0] 3<|gT 11 12 13 (.dt 11 (.set 1 0) [h 11 11,h3 12,h 10 9]<|aA [h3 12,jI 1]<|.dt 11 (.subs 1) [h 14 11,jI 0,h3 15]<|.ret [h 16 11]))
def A2u{G}(f:M6 G):M0 prog G 31 [.s 9,.s 9] zK [.s 11]:=by
 refine G9 (d:=60) A2t (cxg (A71.2 f) (A0t f)) f ⟨f31,_,func31,rfl⟩ D2 D2 ?_;intro us outs g;unfold zK at g;split at g
 .skip;rename_i s c;split at g
  .rename_i l;cases g;have o:Lib.countByte s (c.getD 0 0)<=s.length:=cB;have m:=A0_ s (c.getD 0 0);have n:((el (A1C (some (mM s (c.getD 0 0)).1) ((mM s (c.getD 0 0)).2.2:Int).toNat (mM s (c.getD 0 0)).2.1)).length:Int)=(el (some (mM s (c.getD 0 0)).1)).length:=by rw[DZ,Q1]
   unfold A2t;refine w0 (.cons 1 _ (.cons 0 _ (.nil))) ?_;refine FJ ?_;refine w4 (fun g0=>?_) fun g0=>?_
   .refine w8 ?_;first|omega|(exfalso;subst g0;exact absurd l.1 F1)
   refine w31 JI (e:=A2T _ _ A2) (k':=?_);first|refine jF ?_|refine aC ?_
   refine nC ?_;first|refine jF ?_|refine aC ?_
   refine A8m ?_;refine w2 (.rep 1) (r:=rS) (e:=A15 rfl A2 A2 rfl) (k':=?_);first|refine TJ ?_|refine FI ?_
   refine w3 tB (e:=A7L l.1 l.2) (k':=?_);show Wk _ _ (.cons _ _ (.cons _ _ (.cons _ _ _)));refine mR ?_;refine w5 (fun g1=>?_) fun g1=>?_
   .refine w8 ?_;first|omega|(exfalso;subst g0;exact absurd l.1 F1)
   refine w2 (.set 1 0) (r:=rS) (e:=PX _ rfl (A1 rfl) A2 A2 rfl) (k':=?_);first|refine jF ?_|refine aC ?_
   refine w2 (.subs 1) (r:=rS) (e:=IV rfl A2 A2 A2) (k':=?_);refine w7 [G6 rS _] ?_;exact F0 (fun z=>[z]) (WC s (c.getD 0 0))
  .cases g
 .cases g
def A5T(s:B6):Lib.cut s [32]=P4 s:=by
 unfold Lib.cut;rw[Lib.index_one];by_cases h:Lib.indexByte s 32<0
 .rw[A7 A2,A56 (A9b h)]
 .rw[A9 A2,A55 (A9a h)];have e:(Lib.indexByte s 32+1).toNat=(Lib.indexByte s 32).toNat+1:=A2;rw[e];rfl
def BA:List U->Option (Nat×List U)
 | [.str s,.str c]=>if s.length<=100000000/\c=[32]then some (0,[.str ((P4 s).1),.str ((P4 s).2.1),.bool ((P4 s).2.2)])else none
 | _=>none
def A2N(s:B6)(c:B6)(e:s.length<=100000000/\c=[32]):BA [.str s,.str c]=some (0,[.str ((P4 s).1),.str ((P4 s).2.1),.bool ((P4 s).2.2)]):=A9 e
def A7c{G}(l:M6 G):M0 prog G 91 [.s 9,.s 9] BA [.s 9,.s 9,.s 8]:=by
 intro us outs w vs R g f p hR;unfold BA at f;split at f
 .skip;rename_i s c;split at f
  .rename_i m;cases f;have hv:=T8 (vs2:=[.string ⟨⟨s⟩⟩,.string ⟨⟨c⟩⟩]) g rfl;subst hv;refine fB (vr:=[.string ⟨⟨(P4 s).1⟩⟩,.string ⟨⟨(P4 s).2.1⟩⟩,.bool (P4 s).2.2]) func91 rfl D2 rfl ?_;obtain⟨q,rfl⟩:=m;refine(Tryz.strings_Cut_shaped ⟨⟨s⟩⟩ ⟨⟨[32]⟩⟩ w (tS l p) (by show s.length<_;omega)).mono fun e w' ⟨h1,n,o⟩=>⟨?_,by subst o;exact⟨rfl,rfl,rfl,A6 _,fun _ _=>rfl⟩⟩
   rw[show Lib.cut (ByteArray.mk (Array.mk s)).data.toList (ByteArray.mk (Array.mk [32])).data.toList=P4 s from A5T s]at h1;exact h1
  .cases f
 .cases f
def lbn{s S:B6}{R B:Bool}(h:bnR s=R/\bnA s=S)(e:B=decide ((P4 S).2.2=true/\jJ (P4 S).1=0/\(P4 S).2.1≠[])):[U.int .i64 (kpO (P4 S).1).1,.int .i64 (kpO (P4 S).1).2.1,.int .i64 (kpO (P4 S).1).2.2.1,.int .i64 (kpO (P4 S).1).2.2.2.1,.int .i64 (kpO (P4 S).1).2.2.2.2.1,.int .i64 (kpO (P4 S).1).2.2.2.2.2.1,.int .i64 (kpO (P4 S).1).2.2.2.2.2.2.1,.str (kpO (P4 S).1).2.2.2.2.2.2.2,.str (P4 S).2.1,.bool R,.bool B]=[U.int .i64 (bnG s).1,.int .i64 (bnG s).2.1,.int .i64 (bnG s).2.2.1,.int .i64 (bnG s).2.2.2.1,.int .i64 (bnG s).2.2.2.2.1,.int .i64 (bnG s).2.2.2.2.2.1,.int .i64 (bnG s).2.2.2.2.2.2.1,.str (bnG s).2.2.2.2.2.2.2.1,.str (bnG s).2.2.2.2.2.2.2.2.1,.bool (bnG s).2.2.2.2.2.2.2.2.2,.bool (decide (bnP s))]:=by
 obtain⟨rfl,rfl⟩:=h;subst e;rw[(pI _).1];rfl
def A9q{s:B6}(h:¬3<=(s.length:Int)):bnR s=false/\bnA s=s:=by
 have e:bnR s=false:=E0 fun k=>h A2
 exact⟨e,by unfold bnA;rw[e,A7 F1]⟩
def A7n{s:B6}(h:¬List.take ((3:Int).toNat-(0:Int).toNat) (List.drop (0:Int).toNat s)=[45,114,32]):bnR s=false/\bnA s=s:=by
 have e:bnR s=false:=E0 fun k=>h k.1
 exact⟨e,by unfold bnA;rw[e,A7 F1]⟩
def A7m{s:B6}(h:List.drop (3:Int).toNat s=[]):bnR s=false/\bnA s=s:=by
 have e:bnR s=false:=E0 fun k=>by
  have:=F0 List.length h;have q:=k.2;rw[E4]at this;simp at this;omega
 exact⟨e,by unfold bnA;rw[e,A7 F1]⟩
def A7l{s:B6}(h:List.take ((3:Int).toNat-(0:Int).toNat) (List.drop (0:Int).toNat s)=[45,114,32])(f:List.drop (3:Int).toNat s≠[]):bnR s=true/\bnA s=List.drop (3:Int).toNat s:=by
 have e:bnR s=true:=I2 ⟨h,Nat.lt_of_not_le fun k=>f (Q8 k)⟩;exact⟨e,by unfold bnA;rw[e,A9 rfl];rfl⟩
def A9z{S:B6}(h:(P4 S).2.2=false):false=decide ((P4 S).2.2=true/\jJ (P4 S).1=0/\(P4 S).2.1≠[]):=(E0 fun k=>by rw[h]at k;cases k.1).symm
def A9y{S:B6}(h:¬kpE (P4 S).1=0):false=decide ((P4 S).2.2=true/\jJ (P4 S).1=0/\(P4 S).2.1≠[]):=(E0 fun k=>h ((pI _).2.trans k.2.1)).symm
def A9x{S:B6}(h1:(P4 S).2.2=true)(h:kpE (P4 S).1=0):decide ((P4 S).2.1≠[])=decide ((P4 S).2.2=true/\jJ (P4 S).1=0/\(P4 S).2.1≠[]):=by
 rw[(pI _).2]at h;exact decide_eq_decide.2 ⟨fun k=>⟨h1,h,k⟩,fun k=>k.2.2⟩
def QJ(s:B6):(P4 s).1.length<=s.length:=by
 unfold P4;split
 .show(List.take _ s).length<=_;rw[K4];omega
 .exact A6 _
noncomputable def A8U:W3:=⟨_,fun e=>(.cons (A7c e) (.cons (AA e) .nil))⟩
def xZ:List U->Option (Nat×List U)
 | [.str s]=>if s.length<=100000 then some (0,[.int .i64 ((bnG s).1),.int .i64 ((bnG s).2.1),.int .i64 ((bnG s).2.2.1),.int .i64 ((bnG s).2.2.2.1),.int .i64 ((bnG s).2.2.2.2.1),.int .i64 ((bnG s).2.2.2.2.2.1),.int .i64 ((bnG s).2.2.2.2.2.2.1),.str ((bnG s).2.2.2.2.2.2.2.1),.str ((bnG s).2.2.2.2.2.2.2.2.1),.bool ((bnG s).2.2.2.2.2.2.2.2.2),.bool (decide (bnP s))])else none
 | _=>none
def A2Y(s:B6)(e:s.length<=100000):xZ [.str s]=some (0,[.int .i64 ((bnG s).1),.int .i64 ((bnG s).2.1),.int .i64 ((bnG s).2.2.1),.int .i64 ((bnG s).2.2.2.1),.int .i64 ((bnG s).2.2.2.2.1),.int .i64 ((bnG s).2.2.2.2.2.1),.int .i64 ((bnG s).2.2.2.2.2.2.1),.str ((bnG s).2.2.2.2.2.2.2.1),.str ((bnG s).2.2.2.2.2.2.2.2.1),.bool ((bnG s).2.2.2.2.2.2.2.2.2),.bool (decide (bnP s))]):=A9 e
def MR(n:Nat):Tr:=.fn BA [h 0 9,.string ⟨⟨[32]⟩⟩] 3<|.fn mU [h n 9] 9<|.br (n+2) (I4 (n+11) (n+12) 0 (aN [h (n+1) 9,.string ⟨⟨[]⟩⟩]<|.ret [h3 (n+3),h3 (n+4),h3 (n+5),h3 (n+6),h3 (n+7),h3 (n+8),h3 (n+9),h (n+10) 9,h (n+1) 9,.bool false,h (n+13) 8]) (.ret [h3 (n+3),h3 (n+4),h3 (n+5),h3 (n+6),h3 (n+7),h3 (n+8),h3 (n+9),h (n+10) 9,h (n+1) 9,.bool false,.bool false])) (.ret [h3 (n+3),h3 (n+4),h3 (n+5),h3 (n+6),h3 (n+7),h3 (n+8),h3 (n+9),h (n+10) 9,h (n+1) 9,.bool false,.bool false])
def A4X:Tr:=q9 3 0 1 (.lt 9 (.sub) [h 0 9,jI 0,jI 3]<|aE [h 3 9,.string ⟨⟨[45,114,32]⟩⟩]<|N3 4 5 (MR 6) (eP 3 0 6 (.fn BA [h 6 9,.string ⟨⟨[32]⟩⟩] 3<|.fn mU [h 8 9] 9<|.br 10 (I4 19 20 0 (aN [h 9 9,.string ⟨⟨[]⟩⟩]<|.ret [h3 11,h3 12,h3 13,h3 14,h3 15,h3 16,h3 17,h 18 9,h 9 9,.bool true,h 21 8]) (.ret [h3 11,h3 12,h3 13,h3 14,h3 15,h3 16,h3 17,h 18 9,h 9 9,.bool true,.bool false])) (.ret [h3 11,h3 12,h3 13,h3 14,h3 15,h3 16,h3 17,h 18 9,h 9 9,.bool true,.bool false])) (MR 8))) (MR 3)
def A4Y{G}(l:M6 G):M0 prog G 55 [.s 9] xZ [.a [3,3,3,3,3,3,3,9,9,8],.s 8]:=by
 refine G9 (d:=60) A4X (cxg (A8U.2 l) .nil) l ⟨f55,_,func55,rfl⟩ D2 D2 ?_;intro us outs f;unfold xZ at f;split at f
 .skip;rename_i s;split at f
  .rename_i n;cases f;unfold A4X;refine w0 (.cons 0 _ (.nil)) ?_;repeat (first|refine w4 (fun g=>?_) fun g=>?_|refine w4B (fun g=>?_) fun g=>?_|(refine w7 [.int .i64 _,.int .i64 _,.int .i64 _,.int .i64 _,.int .i64 _,.int .i64 _,.int .i64 _,.str _,.str _,.bool _,.bool _] ?_;rotate_left)|refine TK ?_|(refine w3 BA (e:=A2N _ _ ⟨by first|omega|(rw[E4];omega),rfl⟩) (k':=?_);show Wk _ _ (.cons _ _ (.cons _ _ (.cons _ _ _))))|(refine w3 mU (e:=CP _ (by have o:=QJ s;have m:=QJ (List.drop (3:Int).toNat s);rw[E4]at m;omega)) (k':=?_);show Wk _ _ (.cons _ _ (.cons _ _ (.cons _ _ (.cons _ _ (.cons _ _ (.cons _ _ (.cons _ _ (.cons _ _ (.cons _ _ _))))))))))|refine fT ?_|refine nC ?_|refine jE ?_|refine w1 (.sub) (e:=mF _ _ _ _ _ A2 A2 A2) (k':=?_)|refine FJ ?_|refine cI ?_|refine w1 (.sub1) (e:=mE _ _ _ A2 A2) (k':=?_))
   all_goals
    refine lbn (by first|exact A9q ‹_›|exact A7n ‹_›|exact A7n (D8.1 ‹_›)|exact A7m ‹_›|exact A7m (D8.1 ‹_›)|exact A7l ‹_› ‹_›|exact A7l (D8.1 ‹_›) ‹_›) ?_;first|exact A9z ‹_›|exact A9y ‹_›|exact A9x ‹_› ‹_›
    all_goals (trace_state;done)
  .cases f
 .cases f
def A6N{s c:B6}(e:c=[10])(h:(s.length:Int)<=16384):zK [.str s,.str c]=some (0,[G6 rS (some (sp 10 s))]):=by
 subst e;exact A08 _ _ ⟨rfl,A2⟩
def A9I{l:List B6}(h0:0<=i)(h1:i<(l.length:Int)):y9 acc (some ((l.drop i.toNat).map lnG))=y9 (y9 acc (some [lnG (l.getD i.toNat default)])) (some ((l.drop (i+1).toNat).map lnG)):=by
 rw[Y7 l h0 h1,C3,BJ];rfl
def A9J{l:List B6}(h:(l.length:Int)<=i):y9 acc (some ((l.drop i.toNat).map lnG))=acc:=by
 rw[kY l h];exact MO acc
def A9Q{s:B6}(h:¬¬List.take ((5:Int).toNat-(0:Int).toNat) (List.drop (0:Int).toNat s)=[98,105,110,100,32])(e:¬¬bnP (List.drop (5:Int).toNat s)):kL s=false:=A5U ⟨D8.1 h,D8.1 e⟩
def A9T{s:B6}(h:¬5<=(s.length:Int)):kL s=true:=LW fun k=>by
 have:=F0 List.length k.1;rw[K4]at this;have this:min 5 s.length=5:=this;omega
def A9S{s:B6}(h:¬List.take ((5:Int).toNat-(0:Int).toNat) (List.drop (0:Int).toNat s)=[98,105,110,100,32]):kL s=true:=LW fun k=>h k.1
def A9R{s:B6}(e:¬bnP (List.drop (5:Int).toNat s)):kL s=true:=LW fun k=>e k.2
noncomputable def A79:W3:=⟨_,fun e=>(.cons (A2u e) (.cons (AA e) (.cons (XN e) (.cons (A4Y e) .nil))))⟩
def sW:List U->Option (Nat×List U)
 | [u_ls,.int .i64 n,.int .i64 i,.int .i64 p1,.int .i64 p2,.int .i64 p3,.int .i64 p4,.int .i64 p5,.int .i64 p6,.int .i64 p7,.str p8,u_acc]=>(Y8 rS u_ls).bind fun ls=>(Y8 rG u_acc).bind fun acc=>if n=((el ls).length:Int)/\0<=i/\i<=n/\n<=20000/\((el acc).length:Int)<=i/\(∀ x ∈ el ls,x.length<=20000)then q8 (J4 kL ((el ls).drop i.toNat) i) [.int .i64 p1,.int .i64 p2,.int .i64 p3,.int .i64 p4,.int .i64 p5,.int .i64 p6,.int .i64 p7,.str p8,G6 rG (y9 acc (some (((el ls).drop i.toNat).map lnG)))] (fun _=>[])else none
 | _=>none
def pA(ls:(Option (List B6)))(n:Int)(i:Int)(m:Int)(q:Int)(l:Int)(o:Int)(g:Int)(p:Int)(e:Int)(f:B6)(acc:(Option (List (Int×Int×Int×Int×Int×Int×Int×B6×B6×Bool))))(r:n=((el ls).length:Int)/\0<=i/\i<=n/\n<=20000/\((el acc).length:Int)<=i/\(∀ x ∈ el ls,x.length<=20000)):sW [G6 rS ls,.int .i64 n,.int .i64 i,.int .i64 m,.int .i64 q,.int .i64 l,.int .i64 o,.int .i64 g,.int .i64 p,.int .i64 e,.str f,G6 rG acc]=q8 (J4 kL ((el ls).drop i.toNat) i) [.int .i64 m,.int .i64 q,.int .i64 l,.int .i64 o,.int .i64 g,.int .i64 p,.int .i64 e,.str f,G6 rG (y9 acc (some (((el ls).drop i.toNat).map lnG)))] (fun _=>[]):=by
 simp only[sW,M3,J2];exact A9 r
def A3Q:V6:=⟨[(2,.pointer (some ⟨16,0,none⟩)),(10,.pointer (some ⟨19,0,none⟩)),(61,dat 20 0 11),(62,h 1 3),(63,h 2 3)],[(16,.cells 35 [.int .i64 (0),.int .i64 (0),.int .i64 (0),.int .i64 (0),.int .i64 (0),.int .i64 (0),.int .i64 (0),.string ⟨⟨[]⟩⟩,.slice none 0 0]),(19,.cells 35 [h 3 3,h 4 3,h 5 3,h 6 3,h 7 3,h 8 3,h 9 3,h 10 9,own 21 11 20]),(21,.sq 11 20 32 22),(20,.frz),(22,.frz)],12,[⟨.exit 0,[(2,.pointer (some ⟨16,0,none⟩)),(10,.pointer (some ⟨19,0,none⟩))],[(16,.cells 35 [.int .i64 (0),.int .i64 (0),.int .i64 (0),.int .i64 (0),.int .i64 (0),.int .i64 (0),.int .i64 (0),.string ⟨⟨[]⟩⟩,.slice none 0 0]),(19,.cells 35 [h 0 3,h 1 3,h 2 3,h 3 3,h 4 3,h 5 3,h 6 3,h 7 9,own 23 8 20]),(23,.sq 8 20 32 24),(24,.frz)],9⟩,⟨.ret,[(2,.pointer (some ⟨16,0,none⟩)),(3,.int .i64 (6))],[(16,.cells 35 [.int .i64 (0),.int .i64 (0),.int .i64 (0),.int .i64 (0),.int .i64 (0),.int .i64 (0),.int .i64 (0),.string ⟨⟨[]⟩⟩,.slice none 0 0])],0⟩]⟩
noncomputable def VX:Code:=(f23.body).getD .skip
noncomputable def A3M:Code:=match H7 [true,true,true,true,true,true,true,true,false,true,false] VX with|some (.loop x)=>x|_=>.skip
def A3P:f23.body=some VX:=rfl
def A3O:H7 [true,true,true,true,true,true,true,true,false,true,false] VX=some (.loop A3M):=D2
def A3N:Tr:=cC 1 2 12 (gT 0 2 13 (.lt 9 (.get 1 0) [h 0 11,h3 2]<|q9 5 14 15 (.lt 9 (.sub) [h 14 9,jI 0,jI 5]<|aE [h 17 9,.string ⟨⟨[98,105,110,100,32]⟩⟩]<|N3 18 19 (.fn xZ [h 14 9] 11<|J8 1) (.lt 9 (.sub1) [h 14 9,jI 5]<|.fn xZ [h 20 9] 11<|N3 31 32 (J8 1) (.dt 20 (.snoc 10) [h 11 20,h3 21,h3 22,h3 23,h3 24,h3 25,h3 26,h3 27,h 28 9,h 29 9,h 30 8]<|aA [h3 2,jI 1]<|.ret [jI (-1),h 0 11,h3 1,h3 34,h3 3,h3 4,h3 5,h3 6,h3 7,h3 8,h3 9,h 10 9,h 33 20]))) (.fn xZ [h 14 9] 11<|J8 1))) (.ret [jI 0,h3 3,h3 4,h3 5,h3 6,h3 7,h3 8,h3 9,h 10 9,h 11 20])
def VW:List U->Nat
 | [u_ls,.int .i64 n,.int .i64 i,.int .i64 p1,.int .i64 p2,.int .i64 p3,.int .i64 p4,.int .i64 p5,.int .i64 p6,.int .i64 p7,.str p8,u_acc]=>(match Y8 rS u_ls with|some ls=>(match Y8 rG u_acc with|some acc=>(n-i).toNat|none=>0)|none=>0)
 | _=>0
def VV(ls:(Option (List B6)))(n:Int)(i:Int)(m:Int)(q:Int)(l:Int)(o:Int)(g:Int)(p:Int)(e:Int)(f:B6)(acc:(Option (List (Int×Int×Int×Int×Int×Int×Int×B6×B6×Bool)))):VW [G6 rS ls,.int .i64 n,.int .i64 i,.int .i64 m,.int .i64 q,.int .i64 l,.int .i64 o,.int .i64 g,.int .i64 p,.int .i64 e,.str f,G6 rG acc]=(n-i).toNat:=by
 simp only[VW,M3]
def A6c{G}(x:M6 G):∀ (E:Nat->U) (base:Nat),@W1 ⟨E,G⟩ prog base gl f23.ntmps A3M (U3 prog gl n0 25 A3Q sW):=by
 refine u7 (dep:=60) (f:=23) (n0:=n0) (nB:=25) (H0:=H0) VW A3N (cxg (A79.2 x) .nil) x func23 A3P A3O D2 D2 D2 ?_;intro us d outs p;have K:=p;unfold sW at p;split at p
 .skip;rename_i L n i C F A D B H y I J;have w:=D9.1 p;clear p;obtain⟨ls,o,p⟩:=w;replace o:=R8 o;subst o;have s:=D9.1 p;clear p;obtain⟨acc,m,p⟩:=s;replace m:=R8 m;subst m;split at p
  .rename_i q;clear p K;have N:i<n->((el ls).getD i.toNat default).length<=20000:=fun h=>q.2.2.2.2.2 _ (wZ q.2.1 A2)
   refine⟨rfl,?_⟩;unfold A3N;refine w0 (.cons 11 _ (.cons 10 _ (.cons 9 _ (.cons 8 _ (.cons 7 _ (.cons 6 _ (.cons 5 _ (.cons 4 _ (.cons 3 _ (.cons 2 _ (.cons 1 _ (.cons 0 _ (.nil))))))))))))) ?_;repeat (first|refine w4 (fun g=>?_) fun g=>?_|refine w4B (fun g=>?_) fun g=>?_|refine cI ?_|refine yJ ?_|(refine w3 xZ (e:=A2Y _ (by have z:=N ‹_›;first|omega|(rw[E4];omega))) (k':=?_);show Wk _ _ (.cons _ _ (.cons _ _ (.cons _ _ (.cons _ _ (.cons _ _ (.cons _ _ (.cons _ _ (.cons _ _ (.cons _ _ (.cons _ _ (.cons _ _ _))))))))))))|(refine w7 [.int .i64 _] ?_;rotate_left)|refine jF ?_|refine aC ?_|refine gU ?_|refine mR ?_|refine w1 (.get 1 0) (u:=.str _) (e:=J5 rfl A2 A2 rfl) (k':=?_)|refine nC ?_|refine jE ?_|refine w1 (.sub) (e:=mF _ _ _ _ _ A2 A2 A2) (k':=?_)|refine FJ ?_|refine w1 (.sub1) (e:=mE _ _ _ A2 A2) (k':=?_)|refine w2 (.snoc 10) (r:=rG) (e:=IW (a:=lnG ((el ls).getD i.toNat default)) rfl rfl F1 A2) (k':=?_)|(refine w7 [.int .i64 _,G6 rS _,.int .i64 _,.int .i64 _,.int .i64 _,.int .i64 _,.int .i64 _,.int .i64 _,.int .i64 _,.int .i64 _,.int .i64 _,.str _,G6 rG _] ?_;rotate_left)|(refine w8 ?_;first|omega)|(refine w7 [.int .i64 _,.int .i64 _,.int .i64 _,.int .i64 _,.int .i64 _,.int .i64 _,.int .i64 _,.int .i64 _,.str _,G6 rG _] ?_;rotate_left))
   all_goals first
    | refine U7 ?_ ?_
      .rw[pA ls n (i+1) C F A D B H y I _ ⟨q.1,A2,A2,q.2.2.2.1,by rw[Q5,D6,aK];omega,q.2.2.2.2.2⟩,pA ls n i C F A D B H y I acc q,aV (i:=i) q.2.1 A2 (A9Q ‹_› ‹_›),A9I (l:=el ls) (i:=i) q.2.1 A2];rfl
      .rw[VV,VV];omega
    | refine K5 (d:=0) ?_
      rw[pA ls n i C F A D B H y I acc q,dG A2,A9J A2];rfl
    | refine K5 (d:=1) ?_
      have M:kL ((el ls).getD i.toNat default)=true:=by
       first
       | exact A9T ‹_›
       | exact A9S ‹_›
       | exact A9R ‹_›
      rw[pA ls n i C F A D B H y I acc q,dF (i:=i) q.2.1 A2 M];rfl
  .cases p
 .cases p
noncomputable def A8Z:List LpE:=(23,([true,true,true,true,true,true,true,true,false,true,false],U3 prog gl n0 25 A3Q sW))::[]
def A0n{G}(e:M6 G):y5 prog G gl A8Z:=.cons func23 A3P A3O (A6c e) .nil
def A6t{s:B6}{X:Xt}{L:Option (List Gt)}{E:Int}(h1:prX s=X)(e:prL s=L)(h3:prE s=E):[U.int .i64 X.1,.int .i64 X.2.1,.int .i64 X.2.2.1,.int .i64 X.2.2.2.1,.int .i64 X.2.2.2.2.1,.int .i64 X.2.2.2.2.2.1,.int .i64 X.2.2.2.2.2.2.1,.str X.2.2.2.2.2.2.2,G6 rG L,U.int .i64 E]=[U.int .i64 (prX s).1,.int .i64 (prX s).2.1,.int .i64 (prX s).2.2.1,.int .i64 (prX s).2.2.2.1,.int .i64 (prX s).2.2.2.2.1,.int .i64 (prX s).2.2.2.2.2.1,.int .i64 (prX s).2.2.2.2.2.2.1,.str (prX s).2.2.2.2.2.2.2,G6 rG (prL s),U.int .i64 (prE s)]:=by
 subst h1 e h3;rfl
def A6u{s:B6}{E:Int}(h:prE s=E)(e:E≠0):prX s=X0/\prL s=none/\prE s=E:=⟨(A6b (by rw[h];exact e)).1,(A6b (by rw[h];exact e)).2,h⟩
def A9H{L:List B6}(h:¬7<=((L.getD (0:Int).toNat default).length:Int)):¬psP L:=fun k=>by
 have k:=F0 List.length k.1.1;rw[K4]at k;have e:L.getD (0:Int).toNat default=L.headD []:=by cases L<;>rfl
 rw[e]at h;have k:min 7 (L.headD []).length=7:=k;omega
def A9G{L:List B6}(h:¬List.take ((7:Int).toNat-(0:Int).toNat) (List.drop (0:Int).toNat (L.getD (0:Int).toNat default))=[112,114,101,102,105,120,32]):¬psP L:=fun k=>h (by
 have e:L.getD (0:Int).toNat default=L.headD []:=by cases L<;>rfl
 rw[e];exact k.1.1)
def A9F{L:List B6}(h:kpE (List.drop (7:Int).toNat (L.getD (0:Int).toNat default))≠0):¬psP L:=fun k=>h (by
 have e:L.getD (0:Int).toNat default=L.headD []:=by cases L<;>rfl
 rw[e,(pI _).2];exact k.1.2)
def A9E{L:List B6}(h:(L.length:Int)-1=0):¬psP L:=fun k=>by
 have k:=k.2
 match L,h with
 | [a],_=>cases k
 | [],h=>simp at h
 | a::b::r,h=>simp only[E5]at h;omega
def VU{L:List B6}(h0:1<=(L.length:Int))(h:¬(L.length:Int)-1=0):L.tail.getLast? = some (L.getD ((L.length:Int)-1).toNat default)/\L.tail.dropLast=((L.drop (1:Int).toNat).take (((L.length:Int)-1).toNat-(1:Int).toNat)).drop (0:Int).toNat:=by
 match L,h0,h with
 | a::b::r,_,_ =>
   have e:(((a::b::r).length:Int)-1).toNat=r.length+1:=by simp only[E5];omega
   rw[e];refine⟨?_,?_⟩
   .show(b::r).getLast? = some ((b::r).getD r.length default);rw[List.getLast?_eq_getElem?,B1];show(b::r)[r.length]? = _;rw[A5 (by simp)];rfl
   .show(b::r).dropLast=(b::r).take r.length;rw[List.dropLast_eq_take];rfl
 | [a],_,h=>exact absurd rfl h
def A9D{L:List B6}(h0:1<=(L.length:Int))(h1:¬(L.length:Int)-1=0)(h:L.getD ((L.length:Int)-1).toNat default≠[]):¬psP L:=fun k=>by
 have k:=(NU.1 k.2).1;rw[(VU h0 h1).1]at k;exact h (by injection k)
def A9C{L:List B6}(h0:1<=(L.length:Int))(h1:¬(L.length:Int)-1=0)(h:J4 kL ((el (jR (some L) (1:Int).toNat ((L.length:Int)-1).toNat)).drop (0:Int).toNat) 0=some j):¬psP L:=fun k=>by
 have k:=(NU.1 k.2).2;rw[(VU h0 h1).2]at k;rw[iD]at h
 have:=(qE h).1;rw[show el (some L)=L from rfl,k]at this;cases this
def A8_{L:List B6}(h0:1<=(L.length:Int))(h1:¬(L.length:Int)-1=0)(f:¬¬List.take ((7:Int).toNat-(0:Int).toNat) (List.drop (0:Int).toNat (L.getD (0:Int).toNat default))=[112,114,101,102,105,120,32])(h3:¬kpE (List.drop (7:Int).toNat (L.getD (0:Int).toNat default))≠0)(g:¬L.getD ((L.length:Int)-1).toNat default≠[])(h:J4 kL ((el (jR (some L) (1:Int).toNat ((L.length:Int)-1).toNat)).drop (0:Int).toNat) 0=none):psP L:=by
 have e:L.getD (0:Int).toNat default=L.headD []:=by cases L<;>rfl
 rw[e]at f h3;refine⟨⟨D8.1 f,?_⟩,NU.2 ⟨?_,?_⟩⟩
 .rw[(pI _).2]at h3;exact D8.1 h3
 .rw[(VU h0 h1).1,D8.1 g]
 .rw[(VU h0 h1).2];rw[iD]at h;exact xD h
def A9B{L:List B6}(h0:1<=(L.length:Int))(h1:¬(L.length:Int)-1=0):((el (jR (some L) (1:Int).toNat ((L.length:Int)-1).toNat)).drop (0:Int).toNat).map lnG=rgs L.tail:=by
 unfold rgs;rw[(VU h0 h1).2,iD];rfl
def A9A{L:List B6}:kpO (List.drop (7:Int).toNat (L.getD (0:Int).toNat default))=Z4 ((L.headD []).drop 7):=by
 have e:L.getD (0:Int).toNat default=L.headD []:=by cases L<;>rfl
 rw[e,(pI _).1];rfl
def HV{s:B6}{E:Int}(h:prE s=E)(e:E≠0):[U.int .i64 0,.int .i64 0,.int .i64 0,.int .i64 0,.int .i64 0,.int .i64 0,.int .i64 0,.str [],G6 rG none,U.int .i64 E]=[U.int .i64 (prX s).1,.int .i64 (prX s).2.1,.int .i64 (prX s).2.2.1,.int .i64 (prX s).2.2.2.1,.int .i64 (prX s).2.2.2.2.1,.int .i64 (prX s).2.2.2.2.2.1,.int .i64 (prX s).2.2.2.2.2.2.1,.str (prX s).2.2.2.2.2.2.2,G6 rG (prL s),U.int .i64 (prE s)] :=
 A6t (X:=X0) (A6u h e).1 (A6u h e).2.1 h
def RE(s:B6):1<=((sp 10 s).length:Int):=by
 have:=UA s 10;omega
def A4t{s:B6}(h:¬16384<(s.length:Int)):((sp 10 s).length:Int)<=16385:=by
 have:=UA s 10;have e:s.count 10<=s.length:=cB;omega
def A83{s:B6}(h:¬16384<(s.length:Int))(h1:¬((sp 10 s).length:Int)-1=0)(hp:psP (sp 10 s)):prE s=rW (kpO (List.drop (7:Int).toNat ((sp 10 s).getD (0:Int).toNat default))) (el (y9 none (some (((el (jR (some (sp 10 s)) (1:Int).toNat (((sp 10 s).length:Int)-1).toNat)).drop (0:Int).toNat).map lnG))))/\psX s=kpO (List.drop (7:Int).toNat ((sp 10 s).getD (0:Int).toNat default))/\psL s=(y9 none (some (((el (jR (some (sp 10 s)) (1:Int).toNat (((sp 10 s).length:Int)-1).toNat)).drop (0:Int).toNat).map lnG))):=by
 have f:psX s=kpO (List.drop (7:Int).toNat ((sp 10 s).getD (0:Int).toNat default)):=(A9A (L:=sp 10 s)).symm;have e:psL s=(y9 none (some (((el (jR (some (sp 10 s)) (1:Int).toNat (((sp 10 s).length:Int)-1).toNat)).drop (0:Int).toNat).map lnG))):=by
  unfold psL;rw[A9B (RE s) h1]
 exact⟨by rw[A88 A2 hp,f,e],f,e⟩
def A66(s:B6) : -9223372036854775808<=(Z4 s).2.2.1/\(Z4 s).2.2.1<=9223372036854775807/\((Z4 s).2.2.2.2.2.2.2.length:Int)<=140737488351232:=by
 unfold Z4;split
 .rename_i h;obtain⟨e,h0,h1⟩:=XI h.1;rw[e];exact⟨by show _<=(iZ s).2.2.1;omega,by show(iZ s).2.2.1<=_;omega,by show(0:Int)<=_;decide⟩
 .exact⟨F1,F1,by show(0:Int)<=_;decide⟩
def A54(s:B6):(P4 s).2.1.length<=s.length:=by
 unfold P4;split
 .show(List.drop _ s).length<=_;rw[E4];omega
 .exact lJ _
def A2a(s:B6):(bnA s).length<=s.length:=by
 unfold bnA;split
 .rw[E4];omega
 .exact A6 _
def A5R{s:B6}(h:s.length<=20000):gOk (lnG s):=by
 have h1:=A66 (P4 (bnA (s.drop 5))).1;have e:=A54 (bnA (s.drop 5));have h3:=A2a (s.drop 5);rw[E4]at h3;refine⟨h1.1,h1.2.1,h1.2.2,?_⟩;show((P4 (bnA (s.drop 5))).2.1.length:Int)<=_;omega
def UG{s:B6}(h:¬16384<(s.length:Int)){i j:Nat}:∀ x ∈ el (jR (some (sp 10 s)) i j),x.length<=20000:=fun x hx=>by
 rw[iD]at hx
 have:=TZ (bZ (List.mem_of_mem_take hx));omega
def A6W{s:B6}(h:¬16384<(s.length:Int)):((el (y9 none (some (((el (jR (some (sp 10 s)) (1:Int).toNat (((sp 10 s).length:Int)-1).toNat)).drop (0:Int).toNat).map lnG)))).length:Int)<=140737488351232/\∀ g ∈ el (y9 none (some (((el (jR (some (sp 10 s)) (1:Int).toNat (((sp 10 s).length:Int)-1).toNat)).drop (0:Int).toNat).map lnG))),gOk g:=by
 have h1:=A4t h;rw[EA];show(((List.map lnG ((el (jR (some (sp 10 s)) (1:Int).toNat (((sp 10 s).length:Int)-1).toNat)).drop (0:Int).toNat)).length:Nat):Int)<=_/\∀ g ∈ List.map lnG ((el (jR (some (sp 10 s)) (1:Int).toNat (((sp 10 s).length:Int)-1).toNat)).drop (0:Int).toNat),gOk g;refine⟨?_,fun g e=>?_⟩
 .rw[E3,E4,iD,K4,E4];show(((min _ ((sp 10 s).length-_)-_:Nat)):Int)<=_;omega
 .obtain⟨x,hx,rfl⟩:=L5.1 e;exact A5R (UG h x (bZ hx))
def A8z{s:B6}{i j:Nat}(h:¬16384<(s.length:Int)):((el (jR (some (sp 10 s)) i j)).length:Int)<=20000:=by
 have:=A4t h;rw[iD,K4,E4];show(((min _ ((sp 10 s).length-_):Nat)):Int)<=_;omega
def A5V(s:B6) : -9223372036854775808<=(kpO s).2.2.1/\(kpO s).2.2.1<=9223372036854775807/\((kpO s).2.2.2.2.2.2.2.length:Int)<=140737488351232:=by rw[(pI s).1];exact A66 s
def A8x{s:B6}(h:¬16384<(s.length:Int)):(((el (some (sp 10 s))).getD (0:Int).toNat default).length:Int)<=140737488351232/\((List.drop (7:Int).toNat ((el (some (sp 10 s))).getD (0:Int).toNat default)).length:Int)<=140737488351232:=by
 have h1:=RE s
 have:=TZ (wZ (l:=sp 10 s) (i:=0) F1 A2);rw[E4];exact⟨by show(((sp 10 s).getD _ _).length:Int)<=_;omega,by show(((((sp 10 s).getD (0:Int).toNat default).length-_:Nat)):Int)<=_;omega⟩
noncomputable def A78:W3:=⟨_,fun e=>(.cons (A2u e) (.cons (AA e) (.cons (XN e) (.cons (A4Y e) .nil))))⟩
def A3K:List U->Option (Nat×List U)
 | [.str s]=>if(s.length:Int)<=140737488351232 then some (0,[.int .i64 ((prX s).1),.int .i64 ((prX s).2.1),.int .i64 ((prX s).2.2.1),.int .i64 ((prX s).2.2.2.1),.int .i64 ((prX s).2.2.2.2.1),.int .i64 ((prX s).2.2.2.2.2.1),.int .i64 ((prX s).2.2.2.2.2.2.1),.str ((prX s).2.2.2.2.2.2.2),G6 rG (prL s),.int .i64 (prE s)])else none
 | _=>none
def vU(n:Nat):Tr:=.dt 20 (.nilw 10) []<|.ret [jI 0,jI 0,jI 0,jI 0,jI 0,jI 0,jI 0,.string ⟨⟨[]⟩⟩,h n 20,jI 6]
def VT(n:Nat):Tr:=.fn mU [h 7 9] 9<|vU (n+9)
def A3J:Tr:=aD [h 0 9]<|aG [h3 1,jI 16384]<|.br 2 (.dt 20 (.nilw 10) []<|.ret [jI 0,jI 0,jI 0,jI 0,jI 0,jI 0,jI 0,.string ⟨⟨[]⟩⟩,h 3 20,jI 3]) (.fn zK [h 0 9,.string ⟨⟨[10]⟩⟩] 1<|aD [h 3 11]<|aS [h3 4,jI 1]<|.lt 8 (.inbs 1) [jI 0,h 3 11]<|.br 6 (.lt 9 (.get 1 0) [h 3 11,jI 0]<|q9 7 7 8 (.lt 9 (.sub) [h 7 9,jI 0,jI 7]<|aE [h 10 9,.string ⟨⟨[112,114,101,102,105,120,32]⟩⟩]<|N3 11 12 (VT 13) (.lt 9 (.sub1) [h 7 9,jI 7]<|.fn mU [h 13 9] 9<|cD 22 23 0 (vU 24) (I4 5 24 0 (vU 25) (gT 3 5 25 (.lt 9 (.get 1 0) [h 3 11,h3 5]<|aN [h 26 9,.string ⟨⟨[]⟩⟩]<|.br 27 (vU 28) (.dt 11 (.subs 1) [h 3 11,jI 1,h3 5]<|aD [h 28 11]<|.dt 20 (.nilw 10) []<|.lp sW [h 28 11,h3 29,jI 0,h3 14,h3 15,h3 16,h3 17,h3 18,h3 19,h3 20,h 21 9,h 30 20] 0 9 (.fn tA [h3 31,h3 32,h3 33,h3 34,h3 35,h3 36,h3 37,h 38 9,h 39 20] 1<|cD 40 41 0 (.dt 20 (.nilw 10) []<|.ret [jI 0,jI 0,jI 0,jI 0,jI 0,jI 0,jI 0,.string ⟨⟨[]⟩⟩,h 42 20,h3 40]) (.ret [h3 31,h3 32,h3 33,h3 34,h3 35,h3 36,h3 37,h 38 9,h 39 20,jI 0])) (.lp sW [h 28 11,h3 29,jI 0,h3 14,h3 15,h3 16,h3 17,h3 18,h3 19,h3 20,h 21 9,h 30 20] 1 0 (vU 31) (.no)))))))) (VT 10)) (.no))
def A3L{G}(f:M6 G):M0 prog G 23 [.s 9] A3K [.a [3,3,3,3,3,3,3,9,20],.s 3]:=by
 refine G9 (d:=60) A3J (cxg (A78.2 f) (A0n f)) f ⟨f23,_,func23,rfl⟩ D2 D2 ?_;intro us outs l;unfold A3K at l;split at l
 .skip;rename_i s;split at l
  .rename_i m;cases l;have n:1<=((el (some (sp 10 s))).length:Int):=RE s;have o:¬16384<(s.length:Int)->((el (some (sp 10 s))).length:Int)<=16385:=A4t;unfold A3J;refine w0 (.cons 0 _ (.nil)) ?_;repeat (first|refine w4 (fun g=>?_) fun g=>?_|refine w2 (.nilw 10) (r:=rG) (e:=IX rfl) (k':=?_)|(refine w7 [.int .i64 _,.int .i64 _,.int .i64 _,.int .i64 _,.int .i64 _,.int .i64 _,.int .i64 _,.str _,G6 rG _,.int .i64 _] ?_;rotate_left)|(refine w3 mU (e:=CP _ (by have:=A8x (s:=s) ‹_›;first|exact this.1|exact this.2)) (k':=?_);show Wk _ _ (.cons _ _ (.cons _ _ (.cons _ _ (.cons _ _ (.cons _ _ (.cons _ _ (.cons _ _ (.cons _ _ (.cons _ _ _))))))))))|refine nC ?_|refine zG ?_|refine TJ ?_|refine FI ?_|refine mR ?_|refine w1 (.get 1 0) (u:=.str _) (e:=J5 rfl A2 A2 rfl) (k':=?_)|refine CC ?_|(refine w8 ?_;first|omega)|refine KJ ?_|refine w31 zK (e:=A6N rfl A2) (k':=?_)|refine jE ?_|refine w1 (.sub) (e:=mF _ _ _ _ _ A2 A2 A2) (k':=?_)|refine FJ ?_|refine cI ?_|refine w1 (.sub1) (e:=mE _ _ _ A2 A2) (k':=?_)|refine fT ?_|refine TK ?_|refine w2 (.subs 1) (r:=rS) (e:=IV rfl A2 A2 A2) (k':=?_)|(refine w6 sW (pA _ _ _ _ _ _ _ _ _ _ _ _ ⟨rfl,F1,A2,A8z ‹_›,F1,UG ‹_›⟩) (h0:=fun g=>?_) (h1:=fun v g=>?_);show Wk _ _ (.cons _ _ (.cons _ _ (.cons _ _ (.cons _ _ (.cons _ _ (.cons _ _ (.cons _ _ (.cons _ _ (.cons _ _ _)))))))));rotate_left;skip;rotate_right)|refine w31 tA (e:=PA _ _ _ _ _ _ _ _ _ ⟨(A5V _).1,(A5V _).2.1,(A5V _).2.2,(A6W ‹_›).1,(A6W ‹_›).2⟩) (k':=?_))
   all_goals
    first
    | exact HV (A89 A2) F1
    | exact HV (RV A2 (A9H ‹_›)) F1
    | exact HV (RV A2 (A9G ‹_›)) F1
    | exact HV (RV A2 (A9F ‹_›)) F1
    | exact HV (RV A2 (A9E ‹_›)) F1
    | exact HV (RV A2 (A9D (RE s) ‹_› ‹_›)) F1
    | exact HV (RV A2 (A9C (RE s) ‹_› ‹_›)) F1
    | (have hp:=A83 (s:=s) ‹_› ‹_› (A8_ (RE s) ‹_› ‹_› ‹_› ‹_› ‹_›)
       first
       | exact HV hp.1 ‹_›
       | (have h0:prE s=0:=hp.1.trans (D8.1 ‹_›)
          exact A6t ((A6a h0).1.trans hp.2.1) ((A6a h0).2.trans hp.2.2) h0)
)
  .cases l
 .cases l
def eqI(c:Int)(b:UInt8):Bool:=decide ((b.toNat:Int)=c)
def A9d(c:Int)(s:B6):B6×B6×Bool:=match J4 (eqI c) s 0 with
 | some j=>(s.take j.toNat,s.drop (j+1).toNat,true)
 | none=>([],[],false)
def rpB(f:Bool)(s:B6):Bool:=if f=true then decide (psP (sp 10 s))else rok (sp 10 s)
def rpX(f:Bool)(s:B6)(P:Xt):Xt:=if f=true then psX s else P
def rpL(f:Bool)(s:B6)(acc:Option (List Gt)):Option (List Gt):=y9 acc (some (rgs (if f=true then(sp 10 s).tail else sp 10 s)))
attribute [local irreducible] Z4 jJ A9d bnP bnR bnA rpB rpX rpL
end
section
open Go Go.Sx
open Go Go.Sx Go.Proofs.Tryz
noncomputable def A8Q:W3:=⟨_,fun e=>(.cons (A3L e) (.cons (XY e) .nil))⟩
def A4K:List U->Option (Nat×List U)
 | []=>some (0,[.int .i64 (1),.int .i64 (98),.int .i64 (4),.int .i64 (0),.int .i64 (0),.int .i64 (0),.int .i64 (0),.str ([]),G6 rG (some A9c)])
 | _=>none
def A7Y{G}(e:M6 G):M0 prog G 30 [] A4K [.a [3,3,3,3,3,3,3,9,20]]:=by
 refine fK (d:=60) (cxg (A8Q.2 e) .nil) e ⟨f30,_,func30,rfl⟩ ?_;intro us outs f;unfold A4K at f;split at f
 .cases f;exact⟨[],by kernel_rfl⟩
 .cases f
noncomputable def A7x:W3:=⟨_,fun e=>(.cons (A7Y e) (.cons (A6w e) (.cons (A0v e) (.cons (AA e) (.cons (A3L e) (.cons (A45 e) .nil))))))⟩
def EV:List U->Option (Nat×List U)
 | []=>some (0,[.bool (true)])
 | _=>none
def A0y :EV []=some (0,[.bool (true)]):=rfl
def A2m{G}(e:M6 G):M0 prog G 16 [] EV [.s 8]:=by
 refine fK (d:=60) (cxg (A7x.2 e) .nil) e ⟨f16,_,func16,rfl⟩ ?_;intro us outs f;unfold EV at f;split at f
 .cases f;exact⟨[1,1,1,1,1,1,1,1,1,1,1,1,1,1,1,1,1,1,1,1,1,1,1,1,1,1,1,1,1,1,1,1,1,1,1,1,1,1,1,1,1,1,1,1,1,1,1,1,1,1,1,1,1,1,1,1,1,1,1,1,1,0,0,0,0,0,0,1,1,1,1],by kernel_rfl⟩
 .cases f
def A65:o8 97 0:=.inl ⟨F1,.inl rfl⟩
def A7Z(c m:Int):o8 (dC3 c m) (dM c m):=by
 unfold dC3 dM;by_cases h1:o8 c (m%8)
 .rw[A9 (.inl h1),A9 h1];exact h1
 .by_cases e:o8 c (m%8 / 2%4*2)
  .rw[A9 (.inr (.inl e)),A7 h1,A9 e];exact e
  .by_cases h3:o8 c (m / 2%2*2)
   .rw[A9 (.inr (.inr (.inl h3))),A7 h1,A7 e,A9 h3];exact h3
   .rw[A7 h1,A7 e,A7 h3];by_cases f:o8 c 0
    .rw[A9 (.inr (.inr (.inr f)))];exact f
    .rw[A7 (fun q=>q.elim h1 fun q=>q.elim e fun q=>q.elim h3 f)];exact A65
def A5L(s:B6):(nE s).any isE=false:=by
 rw[List.any_eq_false];intro x hx;unfold nE at hx
 have:=(O4.1 hx).2;intro h;rw[h]at this;cases this
def A7X{q d1 d2 d3 d4 d5 d6 dc:Int}(e:q=0∨q=1∨q=2∨q=3):Y6 (diK q) (diC q d3 d4 dc) (diM q d3 d4 dc) (diW q d1) (diB q d1 d2 d3 d5 d6) (diR q d5) (diL q d6) (diT q t):=by
 rcases e with rfl|rfl|rfl|rfl
 .exact .inl ⟨rfl,rfl,rfl,rfl,rfl,rfl,A7Z _ _⟩
 .refine .inr (.inl ⟨rfl,rfl,rfl,?_⟩);show msP (d3%8) (d1%4) (if Y6 2 0 (d3%8) (d1%4) (d2%4) (d5%40) (d6%80) []then d2%4 else d2%4%2) (d5%40) (d6%80);split
  .rename_i h;rcases h with h|h|h|h
   .exact absurd h.1 F1
   .exact h.2.2.2
   .exact absurd h.1 F1
   .exact absurd h.1 F1
  .unfold msP;omega
 .refine .inr (.inr (.inl ⟨rfl,rfl,rfl,rfl,rfl,rfl,rfl,?_,A5L _⟩))
  have:=A5J (t.take 1000);rw[K4]at this;show(nE (t.take 1000)).length<=1000;omega
 .exact .inr (.inr (.inr ⟨rfl,rfl,rfl,rfl,rfl,rfl,rfl,by show 0<=d1%2;omega,by show d1%2<=1;omega⟩))
def wQ(d:Dt):kyP (kIn d):=⟨rfl,A7X (q:=(0:Int)%4) (d1:=d.2.1) (d2:=d.2.2.1) (d3:=d.2.2.2.1) (d4:=d.2.2.2.2.1) (d5:=d.2.2.2.2.2.1) (d6:=d.2.2.2.2.2.2.1) (dc:=d.2.2.2.2.2.2.2.1) (t:=d.2.2.2.2.2.2.2.2) (.inl rfl)⟩
def nB(b:UInt8):Bool:=decide ((b.toNat:Int)<=32) || decide (127<=(b.toNat:Int))
def A9P(h:(b.toNat:Int)<=32):nB b=true:=by unfold nB;rw[I2 h];rfl
def A9O(h:127<=(b.toNat:Int)):nB b=true:=by unfold nB;rw[I2 h,Bool.or_true]
def A6n(h:¬(b.toNat:Int)<=32)(e:¬127<=(b.toNat:Int)):nB b=false:=by unfold nB;rw[E0 h,E0 e];rfl
def A1b{x:Xt}(h:kyP x):J4 nB (V4 x) 0=none:=A4A fun b e=>by
 have:=A5I h b e;exact A6n A2 A2
def A6v{x:Xt}(h:kyP x) : -9223372036854775808<=x.2.2.1/\x.2.2.1<=9223372036854775807/\(x.2.2.2.2.2.2.2.length:Int)<=140737488351232:=by
 obtain⟨e,g,l⟩:=XI h;have f:x.2.2.2.2.2.2.2=[]:=F0 (fun x:Xt=>x.2.2.2.2.2.2.2) e;exact⟨A2,A2,by rw[f];decide⟩
def A5F{x:Xt}(h:kyP x):u5 x=0/\O2 x=V4 x:=by
 have e:u5 x=0:=by unfold u5;rw[A7 fun k=>k h.2,A7 fun k=>k h.1]
 exact⟨e,A9 e⟩
def A62{d:Dt}:u5 (kIn d)=0/\eqX (Z4 (O2 (kIn d))) (kIn d)=true/\jJ (O2 (kIn d))=0/\J4 nB ((O2 (kIn d)).drop (0:Int).toNat) 0=none/\((0:Int)<=((O2 (kIn d)).length:Int)/\((O2 (kIn d)).length:Int)<=1000000)/\((O2 (kIn d)).length:Int)<=140737488351232:=by
 have h:=wQ d;obtain⟨f,g⟩:=A5F h;have l:=WP (kIn d);rw[g];have e:=A64 h;exact⟨f,QC.2 e.1,e.2,A1b h,A2,A2⟩
def A9U{x y:Xt}(h:kyP x)(k:kyP y):decide (O2 x=O2 y)=eqX x y/\O2 x≠[]:=by
 rw[(A5F h).2,(A5F k).2];refine⟨?_,?_⟩
 .by_cases e:x=y
  .rw[QC.2 e];exact I2 (by rw[e])
  .have:eqX x y=false:=Bool.eq_false_iff.2 fun q=>e (QC.1 q)
   rw[this];exact E0 fun q=>e (A5G h k q)
 .obtain⟨a,r,e,_⟩:=A5H h;rw[e];simp
def kR(x:Xt)(l:Option (List Gt)):Prop := -9223372036854775808<=x.2.2.1/\x.2.2.1<=9223372036854775807/\(x.2.2.2.2.2.2.2.length:Int)<=140737488351232/\((el l).length:Int)<=140737488351232/\(∀ g ∈ el l,gOk g)
instance(x:Xt)(l:Option (List Gt)):Decidable (kR x l):=by unfold kR;infer_instance
def vX:List U->Option (Nat×List U)
 | [.str s]=>if(s.length:Int)<=140737488351232 then some (0,[U.int .i64 (Z4 s).1,.int .i64 (Z4 s).2.1,.int .i64 (Z4 s).2.2.1,.int .i64 (Z4 s).2.2.2.1,.int .i64 (Z4 s).2.2.2.2.1,.int .i64 (Z4 s).2.2.2.2.2.1,.int .i64 (Z4 s).2.2.2.2.2.2.1,.str (Z4 s).2.2.2.2.2.2.2,.int .i64 (jJ s)])else none
 | _=>none
def A6d{us:List U}{r:Nat×List U}(h:vX us=some r):mU us=some r:=by
 unfold vX at h;split at h
 .rename_i s;split at h
  .rename_i h1;rw[CP s h1,(pI s).1,(pI s).2];exact h
  .cases h
 .cases h
def A1T(s:B6)(h:(s.length:Int)<=140737488351232):vX [.str s]=some (0,[U.int .i64 (Z4 s).1,.int .i64 (Z4 s).2.1,.int .i64 (Z4 s).2.2.1,.int .i64 (Z4 s).2.2.2.1,.int .i64 (Z4 s).2.2.2.2.1,.int .i64 (Z4 s).2.2.2.2.2.1,.int .i64 (Z4 s).2.2.2.2.2.2.1,.str (Z4 s).2.2.2.2.2.2.2,.int .i64 (jJ s)]):=A9 h
def A6e{G}(e:M6 G):M0 prog G 20 [.s 9] vX [.a [3,3,3,3,3,3,3,9],.s 3]:=fun us outs w vs R h1 g h3 f=>AA e us outs w vs R h1 (A6d g) h3 f
noncomputable def A8F:W3:=⟨_,fun e=>(.cons (A2m e) (.cons (A4E e) (.cons (A0v e) (.cons (AA e) .nil))))⟩
def wO:List U->Option (Nat×List U)
 | [.str s,.int .i64 e,.str t,.int .i64 f,.int .i64 i,.int .i64 a1,.int .i64 a2,.int .i64 a3,.int .i64 a4,.int .i64 a5,.int .i64 a6,.int .i64 a7,.str a8,.int .i64 b1,.int .i64 b2,.int .i64 b3,.int .i64 b4,.int .i64 b5,.int .i64 b6,.int .i64 b7,.str b8]=>if 0<=i/\i<=(s.length:Int)/\(s.length:Int)<=1000000 then q8 (J4 nB (s.drop i.toNat) i) [.str s,.int .i64 e,.str t,.int .i64 f,.int .i64 a1,.int .i64 a2,.int .i64 a3,.int .i64 a4,.int .i64 a5,.int .i64 a6,.int .i64 a7,.str a8,.int .i64 b1,.int .i64 b2,.int .i64 b3,.int .i64 b4,.int .i64 b5,.int .i64 b6,.int .i64 b7,.str b8] (fun _=>[])else none
 | _=>none
def pJ(s:B6)(e:Int)(t:B6)(f:Int)(i:Int)(r:Int)(a2:Int)(a3:Int)(a4:Int)(a5:Int)(y:Int)(n:Int)(l:B6)(m:Int)(q:Int)(o:Int)(x:Int)(z:Int)(g:Int)(w:Int)(p:B6)(h:0<=i/\i<=(s.length:Int)/\(s.length:Int)<=1000000):wO [.str s,.int .i64 e,.str t,.int .i64 f,.int .i64 i,.int .i64 r,.int .i64 a2,.int .i64 a3,.int .i64 a4,.int .i64 a5,.int .i64 y,.int .i64 n,.str l,.int .i64 m,.int .i64 q,.int .i64 o,.int .i64 x,.int .i64 z,.int .i64 g,.int .i64 w,.str p]=q8 (J4 nB (s.drop i.toNat) i) [.str s,.int .i64 e,.str t,.int .i64 f,.int .i64 r,.int .i64 a2,.int .i64 a3,.int .i64 a4,.int .i64 a5,.int .i64 y,.int .i64 n,.str l,.int .i64 m,.int .i64 q,.int .i64 o,.int .i64 x,.int .i64 z,.int .i64 g,.int .i64 w,.str p] (fun _=>[]):=A9 h
def A3j:V6:=⟨[(5,.pointer (some ⟨18,0,none⟩)),(6,.pointer (some ⟨19,0,none⟩)),(7,h 0 9),(8,h 1 3),(9,h 2 9),(10,h 3 3),(11,h 4 3)],[(18,.cells 30 [h 5 3,h 6 3,h 7 3,h 8 3,h 9 3,h 10 3,h 11 3,h 12 9]),(19,.cells 30 [h 13 3,h 14 3,h 15 3,h 16 3,h 17 3,h 18 3,h 19 3,h 20 9])],21,[⟨.exit 0,[(5,.pointer (some ⟨18,0,none⟩)),(6,.pointer (some ⟨19,0,none⟩)),(7,h 0 9),(8,h 1 3),(9,h 2 9),(10,h 3 3)],[(18,.cells 30 [h 4 3,h 5 3,h 6 3,h 7 3,h 8 3,h 9 3,h 10 3,h 11 9]),(19,.cells 30 [h 12 3,h 13 3,h 14 3,h 15 3,h 16 3,h 17 3,h 18 3,h 19 9])],20⟩,⟨.ret,[(4,.bool false)],[],0⟩]⟩
noncomputable def XM:Code:=(f7.body).getD .skip
noncomputable def A3e:Code:=match H7 [true,true,true,true,true,true,false,true,false] XM with|some (.loop x)=>x|_=>.skip
def A3i:f7.body=some XM:=rfl
def A3g:H7 [true,true,true,true,true,true,false,true,false] XM=some (.loop A3e):=D2
def A3f:Tr:=aD [h 0 9]<|cC 21 4 22 (.lt 4 (.idx) [h 0 9,h3 4]<|aQ [h 23 4,.int .u8 (32)]<|.br 24 (J8 1) (.lt 4 (.idx) [h 0 9,h3 4]<|aH [h 25 4,.int .u8 (127)]<|.br 26 (J8 1) (aA [h3 4,jI 1]<|.ret [jI (-1),h 0 9,h3 1,h 2 9,h3 3,h3 27,h3 5,h3 6,h3 7,h3 8,h3 9,h3 10,h3 11,h 12 9,h3 13,h3 14,h3 15,h3 16,h3 17,h3 18,h3 19,h 20 9]))) (.ret [jI 0,h 0 9,h3 1,h 2 9,h3 3,h3 5,h3 6,h3 7,h3 8,h3 9,h3 10,h3 11,h 12 9,h3 13,h3 14,h3 15,h3 16,h3 17,h3 18,h3 19,h 20 9])
def A3h:List U->Nat
 | [.str s,.int .i64 e,.str t,.int .i64 f,.int .i64 i,.int .i64 a1,.int .i64 a2,.int .i64 a3,.int .i64 a4,.int .i64 a5,.int .i64 a6,.int .i64 a7,.str a8,.int .i64 b1,.int .i64 b2,.int .i64 b3,.int .i64 b4,.int .i64 b5,.int .i64 b6,.int .i64 b7,.str b8]=>((s.length:Int)-i).toNat
 | _=>0
def XL(s:B6)(e:Int)(t:B6)(f:Int)(i:Int)(r:Int)(a2:Int)(a3:Int)(a4:Int)(a5:Int)(y:Int)(n:Int)(l:B6)(m:Int)(q:Int)(o:Int)(x:Int)(z:Int)(g:Int)(w:Int)(p:B6):A3h [.str s,.int .i64 e,.str t,.int .i64 f,.int .i64 i,.int .i64 r,.int .i64 a2,.int .i64 a3,.int .i64 a4,.int .i64 a5,.int .i64 y,.int .i64 n,.str l,.int .i64 m,.int .i64 q,.int .i64 o,.int .i64 x,.int .i64 z,.int .i64 g,.int .i64 w,.str p]=((s.length:Int)-i).toNat:=rfl
def A61{G}(n:M6 G):∀ (E:Nat->U) (base:Nat),@W1 ⟨E,G⟩ prog base gl f7.ntmps A3e (U3 prog gl n0 20 A3j wO):=by
 refine u7 (dep:=60) (f:=7) (n0:=n0) (nB:=20) (H0:=H0) A3h A3f (cxg (A8F.2 n) .nil) n func7 A3i A3g D2 D2 D2 ?_;intro us d outs l;have D:=l;unfold wO at l;split at l
 .skip;rename_i s e t f i z a2 a3 a4 a5 B r p q y w A C o h x;split at l
  .rename_i m;clear l D;refine⟨rfl,?_⟩;unfold A3f;refine s0L ?_;show Tr.sav _ _ (.cons 20 _ (.cons 19 _ (.cons 18 _ (.cons 17 _ (.cons 16 _ (.cons 15 _ (.cons 14 _ (.cons 13 _ (.cons 12 _ (.cons 11 _ (.cons 10 _ (.cons 9 _ (.cons 8 _ (.cons 7 _ (.cons 6 _ (.cons 5 _ (.cons 4 _ (.cons 3 _ (.cons 2 _ (.cons 1 _ (.cons 0 _ (.nil))))))))))))))))))))));refine Wk.s ?_;repeat (first|refine w4 (fun g=>?_) fun g=>?_|refine w1 (.idx) (e:=DW _ _ _ A2 A2) (k':=?_)|(refine w7 [.int .i64 _] ?_;rotate_left)|refine jF ?_|refine aC ?_|refine nC ?_|refine gU ?_|refine nA ?_|refine jE ?_|(refine w7 [.int .i64 _,.str _,.int .i64 _,.str _,.int .i64 _,.int .i64 _,.int .i64 _,.int .i64 _,.int .i64 _,.int .i64 _,.int .i64 _,.int .i64 _,.int .i64 _,.str _,.int .i64 _,.int .i64 _,.int .i64 _,.int .i64 _,.int .i64 _,.int .i64 _,.int .i64 _,.str _] ?_;rotate_left)|(refine w7 [.int .i64 _,.str _,.int .i64 _,.str _,.int .i64 _,.int .i64 _,.int .i64 _,.int .i64 _,.int .i64 _,.int .i64 _,.int .i64 _,.int .i64 _,.str _,.int .i64 _,.int .i64 _,.int .i64 _,.int .i64 _,.int .i64 _,.int .i64 _,.int .i64 _,.str _] ?_;rotate_left))
   all_goals first
    | refine U7 ?_ ?_
      .rw[pJ s e t f (i+1) z a2 a3 a4 a5 B r p q y w A C o h x ⟨A2,A2,m.2.2⟩,pJ s e t f i z a2 a3 a4 a5 B r p q y w A C o h x m,aV (i:=i) m.1 A2 (A6n ‹_› ‹_›)]
      .rw[XL,XL];omega
    | refine K5 (d:=0) ?_
      rw[pJ s e t f i z a2 a3 a4 a5 B r p q y w A C o h x m,dG A2];rfl
    | refine K5 (d:=1) ?_
      rw[pJ s e t f i z a2 a3 a4 a5 B r p q y w A C o h x m,dF (i:=i) m.1 A2 (by first|exact A9P ‹_›|exact A9O ‹_›)];rfl
  .cases l
 .cases l
noncomputable def A8a:List LpE:=(7,([true,true,true,true,true,true,false,true,false],U3 prog gl n0 20 A3j wO))::[]
def A0r{G}(e:M6 G):y5 prog G gl A8a:=.cons func7 A3i A3g (A61 e) .nil
attribute [local irreducible] Z4 jJ O2 u5 diK diC diM diW diB diR diL diT
noncomputable def A8E:W3:=⟨_,fun e=>(.cons (A2m e) (.cons (A4E e) (.cons (A0v e) (.cons (A6e e) .nil))))⟩
def XK:List U->Option (Nat×List U)
 | [.int .u8 e0,.int .u8 e1,.int .u8 e2,.int .u8 e3,.int .u8 e4,.int .u8 e5,.int .u8 e6,.int .u32 ec,.str et,.int .u8 f0,.int .u8 f1,.int .u8 f2,.int .u8 f3,.int .u8 f4,.int .u8 f5,.int .u8 f6,.int .u32 fc,.str ft]=>if 0<=e0/\e0<256/\0<=e1/\e1<256/\0<=e2/\e2<256/\0<=e3/\e3<256/\0<=e4/\e4<256/\0<=e5/\e5<256/\0<=e6/\e6<256/\0<=ec/\ec<4294967296/\(et.length:Int)<=140737488351232/\0<=f0/\f0<256/\0<=f1/\f1<256/\0<=f2/\f2<256/\0<=f3/\f3<256/\0<=f4/\f4<256/\0<=f5/\f5<256/\0<=f6/\f6<256/\0<=fc/\fc<4294967296/\(ft.length:Int)<=140737488351232 then some (0,[.bool (true)])else none
 | _=>none
def A1q(m:Int)(n:Int)(f:Int)(g:Int)(q:Int)(l:Int)(e:Int)(p:Int)(s:B6)(f0:Int)(f1:Int)(f2:Int)(f3:Int)(f4:Int)(f5:Int)(f6:Int)(o:Int)(r:B6)(w:0<=m/\m<256/\0<=n/\n<256/\0<=f/\f<256/\0<=g/\g<256/\0<=q/\q<256/\0<=l/\l<256/\0<=e/\e<256/\0<=p/\p<4294967296/\(s.length:Int)<=140737488351232/\0<=f0/\f0<256/\0<=f1/\f1<256/\0<=f2/\f2<256/\0<=f3/\f3<256/\0<=f4/\f4<256/\0<=f5/\f5<256/\0<=f6/\f6<256/\0<=o/\o<4294967296/\(r.length:Int)<=140737488351232):XK [.int .u8 m,.int .u8 n,.int .u8 f,.int .u8 g,.int .u8 q,.int .u8 l,.int .u8 e,.int .u32 p,.str s,.int .u8 f0,.int .u8 f1,.int .u8 f2,.int .u8 f3,.int .u8 f4,.int .u8 f5,.int .u8 f6,.int .u32 o,.str r]=some (0,[.bool (true)]):=A9 w
def A3d:Tr:=.fn EV [] 1<|N3 18 19 G0 (.fn AY [.int .u8 (0),h 1 4,h 2 4,h 3 4,h 4 4,h 5 4,h 6 4,h 7 6,h 8 9] 8<|.fn AY [.int .u8 (0),h 10 4,h 11 4,h 12 4,h 13 4,h 14 4,h 15 4,h 16 6,h 17 9] 8<|.fn tM [h3 20,h3 21,h3 22,h3 23,h3 24,h3 25,h3 26,h 27 9] 2<|.fn tM [h3 28,h3 29,h3 30,h3 31,h3 32,h3 33,h3 34,h 35 9] 2<|.lp wO [h 36 9,h3 37,h 38 9,h3 39,jI 0,h3 20,h3 21,h3 22,h3 23,h3 24,h3 25,h3 26,h 27 9,h3 28,h3 29,h3 30,h3 31,h3 32,h3 33,h3 34,h 35 9] 0 20 (I4 41 60 0 (I4 43 61 0 (.fn tM [h3 44,h3 45,h3 46,h3 47,h3 48,h3 49,h3 50,h 51 9] 2<|.fn vX [h 40 9] 9<|aE [h 62 9,h 40 9]<|.br 73 (I4 63 74 0 (uD 44 64 75 (I4 72 76 0 (.fn tM [h3 52,h3 53,h3 54,h3 55,h3 56,h3 57,h3 58,h 59 9] 2<|.fn vX [h 42 9] 9<|aE [h 77 9,h 42 9]<|.br 88 (I4 78 89 0 (uD 52 79 90 (I4 87 91 0 (aE [h 40 9,h 42 9]<|.lt 8 (.eqs) [h3 44,h3 52,h3 45,h3 53,h3 46,h3 54,h3 47,h3 55,h3 48,h3 56,h3 49,h3 57,h3 50,h3 58,h 51 9,h 59 9]<|aE [h 92 8,h 93 8]<|.br 94 (aN [h 40 9,.string ⟨⟨[]⟩⟩]<|.ret [h 95 8]) (G0)) G0) G0) G0) (G0)) G0) G0) G0) (G0)) G0) G0) (.lp wO [h 36 9,h3 37,h 38 9,h3 39,jI 0,h3 20,h3 21,h3 22,h3 23,h3 24,h3 25,h3 26,h 27 9,h3 28,h3 29,h3 30,h3 31,h3 32,h3 33,h3 34,h 35 9] 1 0 (G0) (.no)))
def A60{G}(y:M6 G):M0 prog G 7 [.a [4,4,4,4,4,4,4,6,9],.a [4,4,4,4,4,4,4,6,9]] XK [.s 8]:=by
 refine G9 (d:=60) A3d (cxg (A8E.2 y) (A0r y)) y ⟨f7,_,func7,rfl⟩ D2 D2 ?_;intro us outs z;unfold XK at z;split at z
 .skip;rename_i A p x f m o n l r f0 f1 f2 f3 f4 f5 f6 q w;split at z
  .rename_i D;cases z;have hx:u5 (diK (0%4),diC (0%4) f m l,diM (0%4) f m l,diW (0%4) p,diB (0%4) p x f o n,diR (0%4) o,diL (0%4) n,diT (0%4) r)=0/\eqX (Z4 (O2 (diK (0%4),diC (0%4) f m l,diM (0%4) f m l,diW (0%4) p,diB (0%4) p x f o n,diR (0%4) o,diL (0%4) n,diT (0%4) r))) (diK (0%4),diC (0%4) f m l,diM (0%4) f m l,diW (0%4) p,diB (0%4) p x f o n,diR (0%4) o,diL (0%4) n,diT (0%4) r)=true/\jJ (O2 (diK (0%4),diC (0%4) f m l,diM (0%4) f m l,diW (0%4) p,diB (0%4) p x f o n,diR (0%4) o,diL (0%4) n,diT (0%4) r))=0/\J4 nB ((O2 (diK (0%4),diC (0%4) f m l,diM (0%4) f m l,diW (0%4) p,diB (0%4) p x f o n,diR (0%4) o,diL (0%4) n,diT (0%4) r)).drop (0:Int).toNat) 0=none/\((0:Int)<=((O2 (diK (0%4),diC (0%4) f m l,diM (0%4) f m l,diW (0%4) p,diB (0%4) p x f o n,diR (0%4) o,diL (0%4) n,diT (0%4) r)).length:Int)/\((O2 (diK (0%4),diC (0%4) f m l,diM (0%4) f m l,diW (0%4) p,diB (0%4) p x f o n,diR (0%4) o,diL (0%4) n,diT (0%4) r)).length:Int)<=1000000)/\((O2 (diK (0%4),diC (0%4) f m l,diM (0%4) f m l,diW (0%4) p,diB (0%4) p x f o n,diR (0%4) o,diL (0%4) n,diT (0%4) r)).length:Int)<=140737488351232:=A62 (d:=(A,p,x,f,m,o,n,l,r));have rx : -9223372036854775808<=diM (0%4) f m l/\diM (0%4) f m l<=9223372036854775807/\((diT (0%4) r).length:Int)<=140737488351232:=A6v (wQ (A,p,x,f,m,o,n,l,r));have h:u5 (diK (0%4),diC (0%4) f3 f4 q,diM (0%4) f3 f4 q,diW (0%4) f1,diB (0%4) f1 f2 f3 f5 f6,diR (0%4) f5,diL (0%4) f6,diT (0%4) w)=0/\eqX (Z4 (O2 (diK (0%4),diC (0%4) f3 f4 q,diM (0%4) f3 f4 q,diW (0%4) f1,diB (0%4) f1 f2 f3 f5 f6,diR (0%4) f5,diL (0%4) f6,diT (0%4) w))) (diK (0%4),diC (0%4) f3 f4 q,diM (0%4) f3 f4 q,diW (0%4) f1,diB (0%4) f1 f2 f3 f5 f6,diR (0%4) f5,diL (0%4) f6,diT (0%4) w)=true/\jJ (O2 (diK (0%4),diC (0%4) f3 f4 q,diM (0%4) f3 f4 q,diW (0%4) f1,diB (0%4) f1 f2 f3 f5 f6,diR (0%4) f5,diL (0%4) f6,diT (0%4) w))=0/\J4 nB ((O2 (diK (0%4),diC (0%4) f3 f4 q,diM (0%4) f3 f4 q,diW (0%4) f1,diB (0%4) f1 f2 f3 f5 f6,diR (0%4) f5,diL (0%4) f6,diT (0%4) w)).drop (0:Int).toNat) 0=none/\((0:Int)<=((O2 (diK (0%4),diC (0%4) f3 f4 q,diM (0%4) f3 f4 q,diW (0%4) f1,diB (0%4) f1 f2 f3 f5 f6,diR (0%4) f5,diL (0%4) f6,diT (0%4) w)).length:Int)/\((O2 (diK (0%4),diC (0%4) f3 f4 q,diM (0%4) f3 f4 q,diW (0%4) f1,diB (0%4) f1 f2 f3 f5 f6,diR (0%4) f5,diL (0%4) f6,diT (0%4) w)).length:Int)<=1000000)/\((O2 (diK (0%4),diC (0%4) f3 f4 q,diM (0%4) f3 f4 q,diW (0%4) f1,diB (0%4) f1 f2 f3 f5 f6,diR (0%4) f5,diL (0%4) f6,diT (0%4) w)).length:Int)<=140737488351232:=A62 (d:=(f0,f1,f2,f3,f4,f5,f6,q,w));have C : -9223372036854775808<=diM (0%4) f3 f4 q/\diM (0%4) f3 f4 q<=9223372036854775807/\((diT (0%4) w).length:Int)<=140737488351232:=A6v (wQ (f0,f1,f2,f3,f4,f5,f6,q,w));have B:decide (O2 (diK (0%4),diC (0%4) f m l,diM (0%4) f m l,diW (0%4) p,diB (0%4) p x f o n,diR (0%4) o,diL (0%4) n,diT (0%4) r)=O2 (diK (0%4),diC (0%4) f3 f4 q,diM (0%4) f3 f4 q,diW (0%4) f1,diB (0%4) f1 f2 f3 f5 f6,diR (0%4) f5,diL (0%4) f6,diT (0%4) w))=eqX (diK (0%4),diC (0%4) f m l,diM (0%4) f m l,diW (0%4) p,diB (0%4) p x f o n,diR (0%4) o,diL (0%4) n,diT (0%4) r) (diK (0%4),diC (0%4) f3 f4 q,diM (0%4) f3 f4 q,diW (0%4) f1,diB (0%4) f1 f2 f3 f5 f6,diR (0%4) f5,diL (0%4) f6,diT (0%4) w)/\O2 (diK (0%4),diC (0%4) f m l,diM (0%4) f m l,diW (0%4) p,diB (0%4) p x f o n,diR (0%4) o,diL (0%4) n,diT (0%4) r)≠[]:=A9U (wQ (A,p,x,f,m,o,n,l,r)) (wQ (f0,f1,f2,f3,f4,f5,f6,q,w));unfold A3d;refine s0L ?_;show Tr.sav _ _ (.cons 17 _ (.cons 16 _ (.cons 15 _ (.cons 14 _ (.cons 13 _ (.cons 12 _ (.cons 11 _ (.cons 10 _ (.cons 9 _ (.cons 8 _ (.cons 7 _ (.cons 6 _ (.cons 5 _ (.cons 4 _ (.cons 3 _ (.cons 2 _ (.cons 1 _ (.cons 0 _ (.nil)))))))))))))))))));refine Wk.s ?_;repeat (first|refine w4 (fun g=>?_) fun g=>?_|refine w4B (fun g=>?_) fun g=>?_|(refine w7 [.bool _] ?_;rotate_left)|refine fT ?_|refine w32 tM (e:=A2k _ _ _ _ _ _ _ _ (by first|exact rx|exact C)) (k':=?_)|refine FJ ?_|refine w1 (.eqs) (e:=rfl) (k':=?_)|refine cI ?_|refine yJ ?_|(refine w3 AY (e:=A2K _ _ _ _ _ _ _ _ _ ⟨A2,A2,A2,A2,A2,A2,A2,A2,A2,A2,A2,A2,A2,A2,A2,A2,A2⟩) (k':=?_);show Wk _ _ (.cons _ _ (.cons _ _ (.cons _ _ (.cons _ _ (.cons _ _ (.cons _ _ (.cons _ _ (.cons _ _ _)))))))))|(refine w3 vX (e:=A1T _ (by first|exact hx.2.2.2.2.2|exact h.2.2.2.2.2)) (k':=?_);show Wk _ _ (.cons _ _ (.cons _ _ (.cons _ _ (.cons _ _ (.cons _ _ (.cons _ _ (.cons _ _ (.cons _ _ (.cons _ _ _))))))))))|refine w31 EV (e:=A0y) (k':=?_)|(refine w6 wO (pJ _ _ _ _ _ _ _ _ _ _ _ _ _ _ _ _ _ _ _ _ _ ⟨F1,hx.2.2.2.2.1.1,hx.2.2.2.2.1.2⟩) (h0:=fun g=>?_) (h1:=fun v g=>?_);show Wk _ _ (.cons _ _ (.cons _ _ (.cons _ _ (.cons _ _ (.cons _ _ (.cons _ _ (.cons _ _ (.cons _ _ (.cons _ _ (.cons _ _ (.cons _ _ (.cons _ _ (.cons _ _ (.cons _ _ (.cons _ _ (.cons _ _ (.cons _ _ (.cons _ _ (.cons _ _ (.cons _ _ _))))))))))))))))))));rotate_left;skip;rotate_right)|refine A8p ?_|refine TK ?_)
   all_goals
    first
    | exact l1 (I2 B.2)
    | exact absurd hx.1 ‹_›
    | exact absurd h.1 ‹_›
    | exact absurd hx.2.2.1 ‹_›
    | exact absurd h.2.2.1 ‹_›
    | exact absurd rfl (by assumption:¬O2 (diK (0%4),diC (0%4) f m l,diM (0%4) f m l,diW (0%4) p,diB (0%4) p x f o n,diR (0%4) o,diL (0%4) n,diT (0%4) r)=O2 (diK (0%4),diC (0%4) f m l,diM (0%4) f m l,diW (0%4) p,diB (0%4) p x f o n,diR (0%4) o,diL (0%4) n,diT (0%4) r))
    | exact absurd rfl (by assumption:¬O2 (diK (0%4),diC (0%4) f3 f4 q,diM (0%4) f3 f4 q,diW (0%4) f1,diB (0%4) f1 f2 f3 f5 f6,diR (0%4) f5,diL (0%4) f6,diT (0%4) w)=O2 (diK (0%4),diC (0%4) f3 f4 q,diM (0%4) f3 f4 q,diW (0%4) f1,diB (0%4) f1 f2 f3 f5 f6,diR (0%4) f5,diL (0%4) f6,diT (0%4) w))
    | exact absurd (hx.2.1.symm.trans (by assumption:_=false)) F1
    | exact absurd (h.2.1.symm.trans (by assumption:_=false)) F1
    | exact absurd B.1 ‹_›
    | exact absurd (hx.2.2.2.1.symm.trans ‹_›) (by simp)
    | exact absurd (by assumption:(!true)=true) F1
  .cases z
 .cases z
end
end Go.Proofs.YtbbicpheoakeeaaGreatDoor
namespace Go.Proofs.YtbbicpheoakeeaaGreatDoor.keymapNamedDone
open Go Go.Sx Go.ChangeShapes Go.WideShapes Go.ChangeAt Go.RowKit
def KS{P:Program}{G:Nat->Option Obj}{gl n0:Nat}{H0:Hp AB}(h1:gl<=n0)(f:n0<H3)(h:y4 P G gl H0 gl):y4 P G gl H0 n0:=fun w e=>(h w e).imp fun ρ s=>⟨s.hr,s.gr,fun b g=>s.out b (by omega),s.inG,s.ro,f,h1,s.ex,s.shp⟩
def start{W:World}(f:W.ShapedOpen Tryz.prog)(h:laidMetH Tryz.prog Rows.keymapNamedRow.laid W):y4 Tryz.prog (fun k=>W.heap[k]?) gl H0 n0:=by
 rw[MakeChecks.laidMetH_plain _ _ _ D2]at h;have m:jA W 10 (iR.getD 0 (0,[])).2:=i7 D2 (dW (n := "math/bits.deBruijn32tab") (d:=Rows.laid_math_bits_deBruijn32tab) (g:=10) (k:=6) (t:=211) h (C6 (i:=0) rfl) D2 D2 D2);have l:jA W 11 (iR.getD 1 (0,[])).2:=i7 D2 (dW (n := "math/bits.deBruijn64tab") (d:=Rows.laid_math_bits_deBruijn64tab) (g:=11) (k:=6) (t:=212) h (C6 (i:=1) rfl) D2 D2 D2);have A:jA W 6 (iR.getD 2 (0,[])).2:=i7 D2 (dW (n := "internal/strconv.uint64pow10") (d:=Rows.laid_internal_strconv_uint64pow10) (g:=6) (k:=6) (t:=194) h (C6 (i:=2) rfl) D2 D2 D2);have w:jA W 8 (iR.getD 3 (0,[])).2:=i7 D2 (dW (n := "unicode/utf8.acceptRanges") (d:=Rows.laid_unicode_utf8_acceptRanges) (g:=8) (k:=6) (t:=199) h (C6 (i:=3) rfl) D2 D2 D2);have x:jA W 5 [one]:=zS (wN (n := "strconv.ErrRange") (d:=Rows.laid_strconv_ErrRange) (g:=5) (t:=105) h (C6 (i:=4) rfl) D2 D2 D2);have y:jA W 4 [one]:=zS (wN (n := "strconv.ErrSyntax") (d:=Rows.laid_strconv_ErrSyntax) (g:=4) (t:=105) h (C6 (i:=5) rfl) D2 D2 D2);have r1:jA W 1 (iR.getD 6 (0,[])).2:=i7 D2 (dW (n := "strings.asciiSpace") (d:=Rows.laid_strings_asciiSpace) (g:=1) (k:=6) (t:=116) h (C6 (i:=7) rfl) D2 D2 D2);have s:jA W 0 (iR.getD 7 (0,[])).2:=i7 D2 (dW (n := "fenestra/keymap.modifiers") (d:=Rows.laid_fenestra_keymap_modifiers) (g:=0) (k:=6) (t:=93) h (C6 (i:=8) rfl) D2 D2 D2);have o:jA W 7 (iR.getD 8 (0,[])).2:=i7 D2 (dW (n := "unicode/utf8.first") (d:=Rows.laid_unicode_utf8_first) (g:=7) (k:=6) (t:=116) h (C6 (i:=10) rfl) D2 D2 D2);have p:gl<=W.heap.size:=by
  have q:(((begin Tryz.prog (fun _ _=>0) default).world.heap[12]?).bind Obj.row?).isSome=true:=D2;obtain⟨⟨z,t⟩,q⟩:=Option.isSome_iff_exists.1 q;obtain⟨cs,e,_⟩:=f.1 12 z t (I7 D2) q
  have:=(C5.1 e).1;show 13<=_;omega
 refine KS (by decide) (by decide) (TW f p (by decide) ?_ ?_)
 .have e:(iR.all fun r=>Nat.blt r.1 gl)=true:=D2;exact fun r hr=>A1 (D0.1 e r hr)
 .intro r hr;unfold iR at hr;rcases B3.1 hr with rfl|hr
  .exact m
  rcases B3.1 hr with rfl|hr
  .exact l
  rcases B3.1 hr with rfl|hr
  .exact A
  rcases B3.1 hr with rfl|hr
  .exact w
  rcases B3.1 hr with rfl|hr
  .exact x
  rcases B3.1 hr with rfl|hr
  .exact y
  rcases B3.1 hr with rfl|hr
  .exact r1
  rcases B3.1 hr with rfl|hr
  .exact s
  rcases B3.1 hr with rfl|hr
  .exact o
  cases hr
def own:ownKnob Tryz.prog.godebug=none:=D2
def OZ:laidOutB Tryz.prog=true:=D2
noncomputable def rF(os:Os):World:=World.laidAll Tryz.prog os Rows.keymapNamedRow.laid
def XH(os:Os):laidMet Tryz.prog Rows.keymapNamedRow.laid ((rF os).forCall (fun _ _=>0) ⟨#[],#[.agg #[.int .u8 0,.int .u8 0,.int .u8 0,.int .u8 0,.int .u8 0,.int .u8 0,.int .u8 0,.int .u32 0,.string ⟨#[]⟩],.agg #[.int .u8 0,.int .u8 0,.int .u8 0,.int .u8 0,.int .u8 0,.int .u8 0,.int .u8 0,.int .u32 0,.string ⟨#[]⟩]],[]⟩).memory :=
 laidMet_laidAll _ D2 D2
def tP{H:Type}{enc:TypeId×Value->H}{C:Checked}{os:Os}{f:FuncId}{fn:Func}{s:OpenSpec}{conds:List PathCond}{apart:Bool}{laid:List (String×DataW Unit)}(modest:Bool)(w0:World)(args:Array Value)(l:w0.os=os)
  (hv:(w0.forCall (fun _ _=>0) ⟨#[],args,[]⟩).variablesZipB C.prog=true)
  (hr:((w0.forCall (fun _ _=>0) ⟨#[],args,[]⟩).heap.toList.drop C.prog.globals.size).take ((begin C.prog (fun _ _=>0) default).world.heap.size-C.prog.globals.size) =
    (begin C.prog (fun _ _=>0) default).world.heap.toList.drop C.prog.globals.size)
  (e:Input.okWideB C.prog (w0.forCall (fun _ _=>0) ⟨#[],args,[]⟩) f ⟨#[],args,[]⟩=true)
  (g:s.preRow enc C.prog fn conds apart laid (w0.forCall (fun _ _=>0) ⟨#[],args,[]⟩).memory args) :
  ∃ (w:World) (tape:Tape) (i:Input),w.os=os/\(w.forCall tape i).Shaped C.prog/\i.vars=[]/\Input.okWide C.prog (w.forCall tape i) .any w.heap.size f i /\
   s.preRow enc C.prog fn conds apart laid (w.forCall tape i).memory i.args/\({ modest:=modest }:Assume).holds C.prog (lone (Frame.enter C.prog f i.args .normal) [] (w.forCall tape i)):=by
 exact⟨w0,fun _ _=>0,⟨#[],args,[]⟩,l,World.shaped_of_ZipB hv hr,(Input.okWide_of_okWideB (base:=0) e).1,(Input.okWide_of_okWideB e).2,g,by
  simp only[Assume.holds];exact⟨by simp,by simp,fun _=>Modest.zero,by simp,by simp⟩⟩
def A6U(os:Os){H:Type}(enc:TypeId×Value->H):∃ places,DataW.whole enc Tryz.prog ((rF os).forCall (fun _ _=>0) ⟨#[],#[.agg #[.int .u8 0,.int .u8 0,.int .u8 0,.int .u8 0,.int .u8 0,.int .u8 0,.int .u8 0,.int .u32 0,.string ⟨#[]⟩],.agg #[.int .u8 0,.int .u8 0,.int .u8 0,.int .u8 0,.int .u8 0,.int .u8 0,.int .u8 0,.int .u32 0,.string ⟨#[]⟩]],[]⟩).memory Tryz.f7.params.toList Rows.keymapNamedSpec.vars false [.agg #[.int .u8 0,.int .u8 0,.int .u8 0,.int .u8 0,.int .u8 0,.int .u8 0,.int .u8 0,.int .u32 0,.string ⟨#[]⟩],.agg #[.int .u8 0,.int .u8 0,.int .u8 0,.int .u8 0,.int .u8 0,.int .u8 0,.int .u8 0,.int .u32 0,.string ⟨#[]⟩]] 8=some ([.agg [.lit (.int .u8 0),.lit (.int .u8 0),.lit (.int .u8 0),.lit (.int .u8 0),.lit (.int .u8 0),.lit (.int .u8 0),.lit (.int .u8 0),.lit (.int .u32 0),.lit (.string [])],.agg [.lit (.int .u8 0),.lit (.int .u8 0),.lit (.int .u8 0),.lit (.int .u8 0),.lit (.int .u8 0),.lit (.int .u8 0),.lit (.int .u8 0),.lit (.int .u32 0),.lit (.string [])]],[],places) :=
 ⟨[],by kernel_rfl⟩
def A0K(H:Type)(enc:TypeId×Value->H)(W:World)(base:Nat)(args:Array Value)(Z gs:List (DataW H))(before:List MemPlace)
  (f:∀ (j:Nat) t v,Tryz.f7.params[j]? = some t->args[j]? = some v->Value.okWide Tryz.prog W .any base t v)
  (hW:DataW.Whole enc Tryz.prog Tryz.f7.params.toList Rows.keymapNamedSpec.vars false W args.toList Z gs before) (hL:laidMetH Tryz.prog Rows.keymapNamedRow.laid W) (U:W.ShapedOpen Tryz.prog)
  (M:(DataW.weightsEach Tryz.prog (Tryz.f7.params.toList++(OpenSpec.ofChange Rows.keymapNamedSpec).bare.plain.varTypes Tryz.prog) (Z++gs)).all (·<=reachBytes)=true) :
  Calls Tryz.prog 7 args W fun e S=>∃ v,e=.returned v/\Rows.keymapNamedSpec.post enc Tryz.prog Tryz.f7 false true false false W args v S:=by
 have Q:=hW;obtain⟨p,q,P,hV,rfl,ar,aq⟩:=hW;have hA:DataW.TrodAll enc Tryz.prog W 0 (fun _=>true) true Tryz.f7.params.toList args.toList Z p:=P;rw[Tryz.params7]at hA f M;obtain⟨v0,au,d0,ao,p0,q0,V,rfl,rfl,h0,Y⟩:=trodAll_cons hA;obtain⟨v1,av,d1,an,p1,q1,rfl,rfl,rfl,h1,R⟩:=trodAll_cons Y;obtain⟨rfl,rfl,rfl⟩:=trodAll_nil R;obtain rfl:args=#[v0,v1]:=by cases args;simp_all
 obtain⟨rfl,rfl⟩:=trodVars_none hV;have az:∀ x ∈ p0,x.block<W.heap.size:=by obtain⟨m,hm⟩:=h0;exact DataW.trod_lt m _ _ _ hm
 have T:cM Tryz.prog 24 d0:=g7 (i:=0) M rfl rfl;obtain⟨⟨D,L,C,s,B,F,J,z,g⟩,s0,q0⟩:=A4a (r:=(rC (P3 .u8) (rC (P3 .u8) (rC (P3 .u8) (rC (P3 .u8) (rC (P3 .u8) (rC (P3 .u8) (rC (P3 .u8) (rC (P3 .u32) (r1 tX)))))))))) (tg:=[4,4,4,4,4,4,4,6,9]) (RdR.of (k:=12) (ts:=[5,5,5,5,5,5,5,22,9]) D2 (RdL.cons (RdC.u8 D2) (RdL.cons (RdC.u8 D2) (RdL.cons (RdC.u8 D2) (RdL.cons (RdC.u8 D2) (RdL.cons (RdC.u8 D2) (RdL.cons (RdC.u8 D2) (RdL.cons (RdC.u8 D2) (RdL.cons (RdC.u32 D2) (RdL.nil1 (RdC.str' D2))))))))))) (fun _=>by simp only[rC,r1,C3,F6,cSl,P3,JN,tX,A04];rfl) (vZ D2 (f 0 24 v0 rfl rfl)) h0 T;try simp only at q0
 have X:∀ x ∈ p1,x.block<W.heap.size:=by obtain⟨m,hm⟩:=h1;exact DataW.trod_lt m _ _ _ hm
 have aw:cM Tryz.prog 24 d1:=g7 (i:=1) M rfl rfl;obtain⟨⟨A,l,K,G,I,w,n,E,y⟩,s1,q1⟩:=A4a (r:=(rC (P3 .u8) (rC (P3 .u8) (rC (P3 .u8) (rC (P3 .u8) (rC (P3 .u8) (rC (P3 .u8) (rC (P3 .u8) (rC (P3 .u32) (r1 tX)))))))))) (tg:=[4,4,4,4,4,4,4,6,9]) (RdR.of (k:=12) (ts:=[5,5,5,5,5,5,5,22,9]) D2 (RdL.cons (RdC.u8 D2) (RdL.cons (RdC.u8 D2) (RdL.cons (RdC.u8 D2) (RdL.cons (RdC.u8 D2) (RdL.cons (RdC.u8 D2) (RdL.cons (RdC.u8 D2) (RdL.cons (RdC.u8 D2) (RdL.cons (RdC.u32 D2) (RdL.nil1 (RdC.str' D2))))))))))) (fun _=>by simp only[rC,r1,C3,F6,cSl,P3,JN,tX,A04];rfl) (vZ D2 (f 1 24 v1 rfl rfl)) h1 aw;try simp only at q1
 clear P;simp only[Q2]at Q;have ax:ShL (ME W) [.a [4,4,4,4,4,4,4,6,9],.a [4,4,4,4,4,4,4,6,9]] [.int .u8 D,.int .u8 L,.int .u8 C,.int .u8 s,.int .u8 B,.int .u8 F,.int .u8 J,.int .u32 z,.str g,.int .u8 A,.int .u8 l,.int .u8 K,.int .u8 G,.int .u8 I,.int .u8 w,.int .u8 n,.int .u32 E,.str y] [v0,v1]:=(.cons s0 (.cons s1 .nil));obtain⟨_,hc⟩:=A60 (start U hL) [.int .u8 D,.int .u8 L,.int .u8 C,.int .u8 s,.int .u8 B,.int .u8 F,.int .u8 J,.int .u32 z,.str g,.int .u8 A,.int .u8 l,.int .u8 K,.int .u8 G,.int .u8 I,.int .u8 w,.int .u8 n,.int .u32 E,.str y] [.bool true] W _ (ME W) ax (A1q _ _ _ _ _ _ _ _ _ _ _ _ _ _ _ _ _ _ ⟨by omega,by omega,by omega,by omega,by omega,by omega,by omega,by omega,by omega,by omega,by omega,by omega,by omega,by omega,by omega,by omega,by omega,by omega,by omega,by omega,by omega,by omega,by omega,by omega,by omega,by omega,by omega,by omega,by omega,by omega,by omega,by omega,by omega,by omega⟩) (fun k o h=>h) (fun k o h=>h);refine hc.mono fun e S ⟨r,R',hr,he,N,_⟩=>?_
 have ay:=T8 (vs2:=[.bool true]) hr rfl;subst ay;subst he;have O:Below W.heap.size W S:=⟨N.os.1,N.os.2.1,N.os.2.2,N.size,N.keep⟩;exact⟨_,rfl,_,_,_,[],_,[],Q,trodAll_mk1 (shut_bool Tryz.underlying4 _),(trodAll_cons_mk (Below.trod OZ D2 (I7 D2) h0 O az) (trodAll_cons_mk (Below.trod OZ D2 (I7 D2) h1 O X) trodAll_mk0)),rfl,N.kept _,fun h=>by cases h⟩
def A5S(os:Os)(started:os.Started)(H:Type)(enc:TypeId×Value->H)(F:Stop.Interp) :
  ReturnsInHanded {} Tryz.checked os 7 .any ((OpenSpec.ofChange Rows.keymapNamedSpec).preRow enc Tryz.prog Tryz.f7 Rows.keymapNamedRow.domain false Rows.keymapNamedRow.laid) (((OpenSpec.ofChange Rows.keymapNamedSpec).at F).post enc Tryz.prog Tryz.f7 false true false false):=by
 obtain⟨places,hx⟩:=A6U os enc;refine returnsInHanded_of_row (C:=Tryz.checked) (s:=OpenSpec.ofChange Rows.keymapNamedSpec) own started D2 Tryz.func7
  (tP (enc:=enc) (C:=Tryz.checked) false (rF os) #[.agg #[.int .u8 0,.int .u8 0,.int .u8 0,.int .u8 0,.int .u8 0,.int .u8 0,.int .u8 0,.int .u32 0,.string ⟨#[]⟩],.agg #[.int .u8 0,.int .u8 0,.int .u8 0,.int .u8 0,.int .u8 0,.int .u8 0,.int .u8 0,.int .u32 0,.string ⟨#[]⟩]] (World.laidAll_os _ _ _) D2 D2 D2
    (OpenSpec.preRow_of_cond 8 hx D2 (fun k n=>by cases n) D2 (XH os))) ?_
 intro W base args l gs before e m _ _ f o g _;exact A0K H enc W base args l gs before e m o g f
def A80:Rows.KeymapNamedSaid :=
 OpenClaim.holds_of_cond 7 Tryz.f7 rfl rfl rfl rfl rfl rfl rfl ⟨rfl,rfl,rfl,rfl,rfl⟩ rfl rfl rfl rfl rfl D2 Tryz.func7 D2
  (I7 D2) (by unfold Func.isWrapper;first|(rw[A9 (by decide +kernel)];kernel_rfl)|(rw[A7 (by decide +kernel)];exact⟨rfl,rfl⟩))
  (fun os started H enc _ F=>by rw[OpenClaim.pre_eq_preRow];exact A5S os started H enc F)
def plain(f:FuncId)(fn:Func)(m:Tryz.pinned.checked.prog.funcNamed "fenestra/fenestralaw39.KeymapNamed"=some f)(g:Tryz.pinned.checked.prog.funcs[f]? = some fn) :
  true=Tryz.pinned.checked.prog.looks []/\∀ (j:Nat) t,fn.params[j]? = some t->Tryz.pinned.checked.prog.wantsStandIn t=false:=by
 obtain rfl:f=7:=A8 ((show Tryz.prog.funcNamed "fenestra/fenestralaw39.KeymapNamed"=some 7 by kernel_rfl).symm.trans m) |>.symm;obtain rfl:fn=Tryz.f7:=(A8 (Tryz.func7.symm.trans g)).symm;refine⟨by kernel_rfl,fun j t l=>?_⟩;have e:(Tryz.f7.params.toList.all fun t=>!Tryz.prog.wantsStandIn t)=true:=D2
 have:=D0.1 e t (Array.mem_def.1 (Array.mem_of_getElem? l));have n:Tryz.prog.wantsStandIn t=false:=by simpa using this
 exact n
theorem proved:Rows.KeymapNamedCardSaid :=
 Claim7.holds_tied_plain_at .later [] _ _ _ _ A80 (fun _ h=>by cases h) D2 (fun _ h=>by cases h) keymapNamed_row_tie rfl ⟨rfl,rfl⟩ D2 rfl plain D2
#print axioms proved
end Go.Proofs.YtbbicpheoakeeaaGreatDoor.keymapNamedDone
