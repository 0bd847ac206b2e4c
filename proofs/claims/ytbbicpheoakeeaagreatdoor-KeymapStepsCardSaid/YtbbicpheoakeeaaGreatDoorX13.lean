import Derived.Test.YtbbicpheoakeeaaGreatDoorX12
set_option linter.all false
set_option maxRecDepth 100000
set_option maxHeartbeats 4000000
namespace Go.Proofs.YtbbicpheoakeeaaGreatDoor
variable {c d i j:Int}{b r t:B1}{a:List B1}{k:Nat}{acc:Option (List Gt)}{p:Xt}{ws:List Int}{g:Gt}
section
open Go Go.Sx
def HV{α:Type}{p:α->Bool}:∀ {l:List α} {i:Int},(∀ a ∈ l,p a=false)->J3 p l i=none
 | [],_,_=>rfl
 | a::l,i,h=>by
   unfold J3;rw[h a (B5 ..)];exact HV fun b e=>h b (C7 _ e)
def bsF(b:B1):Prop:=b≠[]/\(b.length<=2∨b.getD 1 0≠45)
def A9M(c:Int):4<=(cA c).length:=by
 unfold cA
 (repeat' split)<;>exact A1 rfl
def B4A(h:cR c):bsF (bR c):=by
 unfold cR at h;by_cases h1:1114113<=c
 .rw[A9t h1];have k:∀ n:Nat,n<26->(nmL.getD n [])≠[]/\((nmL.getD n []).length<=2∨(nmL.getD n []).getD 1 0≠45):=F0;exact k _ A2
 .by_cases e:c=32
  .rw[A9u e];exact⟨F0,.inr F0⟩
  .by_cases h3:c<=126
   .rw[A9w h1 e h3];exact⟨by simp,.inl (by simp)⟩
   .rw[RE h1 e h3];exact⟨by simp,.inr (by show(43:UInt8)≠45;decide)⟩
def wO(a v:_)(m:Int)(h:r≠[]):stp [a,45] v ([a,45]++r,m)=(r,m+v):=by
 unfold stp;rw[B0]
 .rfl
 .refine⟨?_,rfl⟩;show 2<([a,45]++r).length;rw[D4]
  have:=dU.2 h;show 2<2+_;omega
def YX{a b:UInt8}(v m:Int)(h:b≠a):stp [a,45] v ([b,45]++r,m)=([b,45]++r,m):=by
 unfold stp;rw[A8];intro k
 have:=k.2;exact h (by injection this)
def OK{a:UInt8}(v m:Int)(h:bsF r):stp [a,45] v (r,m)=(r,m):=by
 unfold stp;rw[A8];intro ⟨f,e⟩;have f:2<r.length:=f;rcases h.2 with h|h
 .omega
 .match r,f,e,h with
  | x::y::l,_,e,h =>
    have e:[x,y]=[a,45]:=e;injection e with _ e
    injection e with e
    exact h e
def mdP(n:Int)(a:UInt8):B1:=if n=0 then[]else[a,45]
def PN(a:UInt8):mdP 0 a=[]:=B0 rfl
def A4i(a:UInt8):mdP 1 a=[a,45]:=A8 F0
def A4h(a:UInt8):mdP 2 a=[a,45]:=A8 F0
def A4g(a:UInt8):mdP 4 a=[a,45]:=A8 F0
def B3G{x y z:Int}(hx:x=0∨x=4)(l:y=0∨y=2)(f:z=0∨z=1)(h:bsF b):stp [83,45] 1 (stp [77,45] 2 (stp [67,45] 4 (mdP x 67++(mdP y 77++(mdP z 83++b)),0)))=(b,x+y+z):=by
 have e:=h.1;rcases hx with rfl|rfl<;>rcases l with rfl|rfl<;>rcases f with rfl|rfl
 .simp only[PN,G9];rw[OK _ _ h,OK _ _ h,OK _ _ h];first|done|rfl
 .simp only[PN,A4i,G9];rw[YX _ _ F0,YX _ _ F0,wO _ _ _ e];first|done|rfl
 .simp only[PN,A4h,G9];rw[YX _ _ F0,wO _ _ _ e,OK _ _ h];first|done|rfl
 .simp only[PN,A4h,A4i,G9];rw[YX _ _ F0,wO _ _ _ (by simp),wO _ _ _ e];first|done|rfl
 .simp only[A4g,PN,G9];rw[wO _ _ _ e,OK _ _ h,OK _ _ h];first|done|rfl
 .simp only[A4g,PN,A4i,G9];rw[wO _ _ _ (by simp),YX _ _ F0,wO _ _ _ e];first|done|rfl
 .simp only[A4g,A4h,PN,G9];rw[wO _ _ _ (by simp),wO _ _ _ e,OK _ _ h];first|done|rfl
 .simp only[A4g,A4h,A4i];rw[wO _ _ _ (by simp),wO _ _ _ (by simp),wO _ _ _ e];first|done|rfl
def B1M(h0:0<=d)(h1:d<16):hD (hU d)=d/\hv ((hU d).toNat:Int)=d:=by
 have k:∀ n:Nat,n<16->hD (hU n)=n/\hv ((hU n).toNat:Int)=n:=F0
 have:=k d.toNat A2
 rwa[show((d.toNat:Nat):Int)=d by omega]at this
def B3u{n:Int}{l:B1}(h0:0<=d)(h1:d<16):hR (hU d::l) n=hR l (16*n+d):=by
 show(if hD (hU d)<0 then none else hR l (16*n+hD (hU d)))=_;rw[(B1M h0 h1).1,A8 A2]
def B3P{n:Int}{l:List Int}(h0:0<=d)(h1:d<16):pu (((hU d).toNat:Int)::l) n=pu l (n*16+d):=by
 show(if hv _<0 then none else pu l (n*16+hv _))=_;rw[(B1M h0 h1).2,A8 A2]
def B1K(h0:0<=c)(h1:c<16777216):hR (cA c) 0=some c:=by
 unfold cA
 (repeat' split)<;>(repeat rw[B3u A2 A2])<;>exact F4 some A2
def B1L(h0:0<=c)(h1:c<16777216):pu (bI (cA c)) 0=some c:=by
 unfold cA
 (repeat' split)<;>(unfold bI;simp only[C3,F6])<;>(repeat rw[B3P A2 A2])<;>exact F4 some A2
def B3g(h:b.length=1):J3 (niF b) nmL 0=none:=HV fun a f=>A0_ fun e=>by
 have k:∀ a ∈ nmL,a.length≠1:=F0;exact k a f (by rw[e,h])
def B0n :J3 (niF ([85,43]++b)) nmL 0=none:=HV fun a f=>A0_ fun e=>by
 have k:∀ a ∈ nmL,a.getD 1 0≠43:=F0;exact k a f (by rw[e];rfl)
def B3f:∀ n:Nat,n<26->J3 (niF (nmL.getD n [])) nmL 0=some (n:Int):=by
 have k:((List.range 26).all fun n=>decide (J3 (niF (nmL.getD n [])) nmL 0=some (n:Int)))=true:=C4;exact fun n e=>H5 (D6.1 k n (W6.2 e))
def A9r(h:cR c):EL (bR c)=c/\kN (bR c)=c:=by
 unfold cR at h;by_cases h1:1114113<=c
 .rw[A9t h1]
  have:=B3f (c-1114113).toNat A2;rw[B3y this,B1o this];omega
 .by_cases l:c=32
  .rw[A9u l,l];decide
  .by_cases h3:c<=126
   .rw[A9w h1 l h3];have k:=B3g (b:=[UInt8.ofNat c.toNat]) rfl;have e:(((([UInt8.ofNat c.toNat]:B1).getD 0 0)).toNat:Int)=c:=by
     show((UInt8.ofNat c.toNat).toNat:Int)=c;rw[UInt8.toNat_ofNat',d7 A2];omega
    have f:¬[UInt8.ofNat c.toNat]=([83,112,97,99,101]:B1):=fun e=>by have e:=F4 List.length e;simp at e
    have n:([UInt8.ofNat c.toNat]:B1).length=1:=rfl;refine⟨?_,?_⟩
    .rw[B1n k,A8 f,B0 n];exact e
    .rw[XN k,A8 f,B0 n];exact e
   .rw[RE h1 l h3];have m:=A9M c;have o:=UL c;have l2:(([85,43]++cA c:B1)).length=2+(cA c).length:=by rw[D4];rfl
    have f:¬([85,43]++cA c:B1)=[83,112,97,99,101]:=fun e=>by cases e
    refine⟨?_,?_⟩
    .rw[B1n B0n,A8 f,A8 A2,A8 fun k=>k.elim A2 fun k=>k.elim A2 fun k=>k rfl];show(hR (cA c) 0).getD (-1)=c;rw[B1K A2 A2];rfl
    .rw[XN B0n,A8 f,A8 A2,B0 ⟨rfl,A2⟩];show puB (cA c)=c;rw[A0q (fun e=>by rw[e]at m;exact absurd m F0),B1L A2 A2];rfl
def TQ{x:Xt}(h:kyP x):x=(1,x.2.1,x.2.2.1,0,0,0,0,[])/\0<=x.2.2.1/\x.2.2.1<=7:=by
 obtain⟨k,c,m,w,b,r,cl,t⟩:=x;obtain⟨h1,e⟩:=h;have h1:k=1:=h1;have e:W7 k c m w b r cl t:=e;unfold W7 at e;rcases e with e|e|e|e
 .obtain⟨_,rfl,rfl,rfl,rfl,rfl,f⟩:=e;subst h1;refine⟨rfl,?_⟩;show 0<=m/\m<=7;unfold aB at f;omega
 .omega
 .omega
 .omega
def A3N{x:Xt}(h:kyP x):kO (dO x)=x/\dQ (dO x)=x:=by
 obtain⟨e,h0,q⟩:=TQ h;have f:=A1S h;have o:=B4A f;have l:=A9r f;have m:dO x=mdP (x.2.2.1 / 4%2*4) 67++(mdP (x.2.2.1 / 2%2*2) 77++(mdP (x.2.2.1 / 1%2*1) 83++bR x.2.1)):=rfl;have n:=B3G (b:=bR x.2.1) (x:=x.2.2.1 / 4%2*4) (y:=x.2.2.1 / 2%2*2) (z:=x.2.2.1 / 1%2*1) A2 A2 A2 o;unfold kO dQ;rw[m,n,l.1,l.2,show x.2.2.1 / 4%2*4+x.2.2.1 / 2%2*2+x.2.2.1 / 1%2*1=x.2.2.1 by omega];exact⟨e.symm,e.symm⟩
def zP(s:B1):kpO s=zQ s/\kpE s=CC s:=by
 by_cases h:kyP (kO s)/\dO (kO s)=s
 .have e:dQ s=kO s:=by
   have:=(A3N h.1).2
   rwa[h.2]at this
  unfold kpO kpE zQ CC;rw[e,B0 h,B0 h];exact⟨rfl,rfl⟩
 .have f:¬(kyP (dQ s)/\dO (dQ s)=s):=fun k=>h (by
   have:=(A3N k.1).1;rw[k.2]at this;rw[this];exact k)
  unfold kpO kpE zQ CC;rw[A8 h,A8 f,A8 h,A8 f];exact⟨rfl,rfl⟩
def nmB(l:B1):Prop:=∀ b ∈ l,33<=b.toNat/\b.toNat<=126
def R0(s:B1):B1×B1×Bool:=match fx 32 s with
 | some j=>(s.take j.toNat,s.drop (j+1).toNat,true)
 | none=>(s,[],false)
def A9n{s:B1}(h:fx 32 s=some j):R0 s=(s.take j.toNat,s.drop (j+1).toNat,true):=by unfold R0;rw[h]
def A9o{s:B1}(h:fx 32 s=none):R0 s=(s,[],false):=by unfold R0;rw[h]
def bnR(s:B1):Bool:=decide (s.take 3=[45,114,32]/\3<s.length)
def bnA(s:B1):B1:=if bnR s=true then s.drop 3 else s
def mkG(x:Xt)(c:B1)(r:Bool):Gt:=(x.1,x.2.1,x.2.2.1,x.2.2.2.1,x.2.2.2.2.1,x.2.2.2.2.2.1,x.2.2.2.2.2.2.1,x.2.2.2.2.2.2.2,c,r)
def bnG(s:B1):Gt:=mkG (zQ (R0 (bnA s)).1) (R0 (bnA s)).2.1 (bnR s)
def bnP(s:B1):Prop:=(R0 (bnA s)).2.2=true/\CC (R0 (bnA s)).1=0/\(R0 (bnA s)).2.1≠[]
instance(s:B1):Decidable (bnP s):=by unfold bnP;infer_instance
def lnP(s:B1):Prop:=s.take 5=[98,105,110,100,32]/\bnP (s.drop 5)
instance(s:B1):Decidable (lnP s):=by unfold lnP;infer_instance
def mB(s:B1):Bool:=!decide (lnP s)
def lnG(s:B1):Gt:=bnG (s.drop 5)
def A9B{s:B1}(h:lnP s):mB s=false:=by unfold mB;rw[J7 h];rfl
def PT{s:B1}(h:¬lnP s):mB s=true:=by unfold mB;rw[E3 h];rfl
def rok:List B1->Bool
 | []=>false
 | [l]=>decide (l=[])
 | l::m::r=>!mB l && rok (m::r)
def rgs(l:List B1):List Gt:=l.dropLast.map lnG
def hdP(s:B1):Prop:=s.take 7=[112,114,101,102,105,120,32]/\CC (s.drop 7)=0
instance(s:B1):Decidable (hdP s):=by unfold hdP;infer_instance
def psP(l:List B1):Prop:=hdP (l.headD [])/\rok l.tail=true
instance(l:List B1):Decidable (psP l):=by unfold psP;infer_instance
def psX(s:B1):Xt:=zQ (((sp 10 s).headD []).drop 7)
def psL(s:B1):Option (List Gt):=P5 none (some (rgs (sp 10 s).tail))
def prE(s:B1):Int:=if 16384<s.length then 3 else if ¬psP (sp 10 s)then 6 else uO (psX s) (el (psL s))
def prX(s:B1):Xt:=if prE s=0 then psX s else X0
def prL(s:B1):Option (List Gt):=if prE s=0 then psL s else none
def B3T{s:B1}(h:16384<s.length):prE s=3:=B0 h
def WS{s:B1}(h:¬16384<s.length)(e:¬psP (sp 10 s)):prE s=6:=by unfold prE;rw[A8 h,B0 e]
def B3S{s:B1}(h:¬16384<s.length)(e:psP (sp 10 s)):prE s=uO (psX s) (el (psL s)):=by unfold prE;rw[A8 h,A8 fun k=>k e]
def B0e{s:B1}(h:prE s≠0):prX s=X0/\prL s=none:=⟨A8 h,A8 h⟩
def B0d{s:B1}(h:prE s=0):prX s=psX s/\prL s=psL s:=⟨B0 h,B0 h⟩
def B0U{l:B1}{r:List B1}(h:r≠[]):rok (l::r)=(!mB l && rok r):=by
 cases r with
 | nil=>exact absurd rfl h
 | cons m r=>rfl
def SH:∀ {l:List B1},rok l=true↔l.getLast? = some []/\l.dropLast.any mB=false
 | []=>by simp[rok]
 | [l]=>by simp[rok]
 | l::m::r=>by
   rw[B0U (by simp),H1,SH (l:=m::r),List.dropLast_cons₂,Q7,List.getLast?_cons_cons];cases mB l<;>simp
def A7W(u:B1):iB (bI u)=u:=by
 unfold iB bI;rw[kB];induction u with
 | nil=>rfl
 | cons a u e=>rw[C3,e];simp
open Go Go.Sx Go.Proofs.Tryz
def NB:List U->Option (Nat×List U)
 | [.str s,.str c]=>if c.length=1 then some (0,[.int .i64 ((Lib.countByte s (c.getD 0 0):Int))])else none
 | _=>none
def A5U(s:B1)(c:B1)(e:c.length=1):NB [.str s,.str c]=some (0,[.int .i64 ((Lib.countByte s (c.getD 0 0):Int))]):=B0 e
def A7y{G}(m:K2 G):L8 prog G 29 [.s 9,.s 9] NB [.s 3]:=by
 intro us outs w vs R l f q hR;unfold NB at f;split at f
 .skip;rename_i s c;split at f
  .rename_i o;cases f;have hv:=V3 (vs2:=[.string ⟨⟨s⟩⟩,.string ⟨⟨c⟩⟩]) l rfl;subst hv;refine gN (vr:=[.int .i64 (Lib.countByte s (c.getD 0 0))]) func29 rfl C4 rfl ?_;obtain⟨x,rfl⟩:∃ x,c=[x]:=by
    match c,o with
    | [x],_=>exact⟨x,rfl⟩
    | [],h=>cases h
    | _::_::_,h=>simp at h
   exact(Tryz.strings_Count_one ⟨⟨s⟩⟩ x w).mono fun e w' ⟨h1,n⟩=>⟨h1,by subst n;exact RowKit.Below.refl _ _⟩
  .cases f
 .cases f
def MA:List U->Option (Nat×List U)
 | [.str s,.str c]=>if c.length=1 then some (0,[.int .i64 (Lib.indexByte s (c.getD 0 0))])else none
 | _=>none
def A4w(s:B1)(c:B1)(e:c.length=1):MA [.str s,.str c]=some (0,[.int .i64 (Lib.indexByte s (c.getD 0 0))]):=B0 e
def B1I{G}(m:K2 G):L8 prog G 65 [.s 9,.s 9] MA [.s 3]:=by
 intro us outs w vs R l f q hR;unfold MA at f;split at f
 .skip;rename_i s c;split at f
  .rename_i o;cases f;have hv:=V3 (vs2:=[.string ⟨⟨s⟩⟩,.string ⟨⟨c⟩⟩]) l rfl;subst hv;refine gN (vr:=[.int .i64 (Lib.indexByte s (c.getD 0 0))]) func65 rfl C4 rfl ?_;obtain⟨x,rfl⟩:∃ x,c=[x]:=by
    match c,o with
    | [x],_=>exact⟨x,rfl⟩
    | [],h=>cases h
    | _::_::_,h=>simp at h
   exact(Tryz.strings_Index_one ⟨⟨s⟩⟩ x w).mono fun e w' ⟨h1,n⟩=>⟨h1,by subst n;exact RowKit.Below.refl _ _⟩
  .cases f
 .cases f
def A9K(s:B1)(c:UInt8) : -1<=Lib.indexByte s c/\(Lib.indexByte s c<(s.length:Int)):=by
 have h:=Lib.indexByte_ge s c;by_cases h0:0<=Lib.indexByte s c
 .have:=(QR h0).2.1;omega
 .omega
def JR{c:UInt8}{s:B1}{i:Nat}(h:Lib.indexByte s c<0):spl c k a s i=(a,s,i):=by
 cases k with
 | zero=>rfl
 | succ k=>rw[spl,B0 h]
def A39{c:UInt8}{s:B1}{n m:Int}(h0:0<=i)(h1:i<n)(hm:m=Lib.indexByte s c)(e:¬m<0):spl c (n-i).toNat a s i.toNat=spl c (n-(i+1)).toNat (a.set i.toNat ((s.drop (0:Int).toNat).take ((m+0).toNat-(0:Int).toNat))) (s.drop (m+1).toNat) (i+1).toNat:=by
 subst hm;rw[show(n-i).toNat=(n-(i+1)).toNat+1 by omega,spl,A8 e,show(Lib.indexByte s c+0).toNat=(Lib.indexByte s c).toNat by omega,show(Lib.indexByte s c+1).toNat=(Lib.indexByte s c).toNat+1 by omega,show(i+1).toNat=i.toNat+1 by omega];rfl
def UN{c:UInt8}{a:Option (List B1)}{s:B1}(h:spl c k (el a) s i.toNat=(el a,s,i.toNat))(hi:0<=i)(e:a=some (el a)):some (0,[U.str (spl c k (el a) s i.toNat).2.1,B9 rS (some (spl c k (el a) s i.toNat).1),U.int .i64 (spl c k (el a) s i.toNat).2.2])=some (0,[U.str s,B9 rS a,U.int .i64 i]):=by
 rw[h];show some (0,[U.str s,B9 rS (some (el a)),U.int .i64 (i.toNat:Int)])=_;rw[<- e,dW hi]
noncomputable def B2n:P2:=⟨_,fun e=>(.cons (A7y e) (.cons (B1I e) .nil))⟩
def vW:List U->Option (Nat×List U)
 | [.str s,.str c,.int .i64 n,u_a,.int .i64 i]=>(I0 rS u_a).bind fun a=>if c.length=1/\0<=i/\i<=n/\n<((el a).length:Int)/\((el a).length:Int)<=1000000000/\s.length<=1000000000/\a=some (el a)then some (0,[.str (spl (c.getD 0 0) (n-i).toNat (el a) s i.toNat).2.1,B9 rS (some (spl (c.getD 0 0) (n-i).toNat (el a) s i.toNat).1),.int .i64 (spl (c.getD 0 0) (n-i).toNat (el a) s i.toNat).2.2])else none
 | _=>none
def sT(s:B1)(c:B1)(n:Int)(a:(Option (List B1)))(i:Int)(e:c.length=1/\0<=i/\i<=n/\n<((el a).length:Int)/\((el a).length:Int)<=1000000000/\s.length<=1000000000/\a=some (el a)):vW [.str s,.str c,.int .i64 n,B9 rS a,.int .i64 i]=some (0,[.str (spl (c.getD 0 0) (n-i).toNat (el a) s i.toNat).2.1,B9 rS (some (spl (c.getD 0 0) (n-i).toNat (el a) s i.toNat).1),.int .i64 (spl (c.getD 0 0) (n-i).toNat (el a) s i.toNat).2.2]):=by
 simp only[vW,G2,D8];exact B0 e
def A7b:Q0:=⟨[(0,h 0 9),(1,h 1 9),(2,.int .i64 (0)),(3,h 2 3),(9,own 18 3 11),(10,h 4 3)],[(18,.sq 3 11 9 19),(19,.frz)],5,[⟨.exit 0,[(0,h 0 9),(9,own 20 1 11),(10,h 2 3)],[(20,.sq 1 11 9 21),(21,.frz)],3⟩]⟩
noncomputable def A2Z:Code:=(f67.body).getD .skip
noncomputable def A7X:Code:=match G5 [true,true,true,true,true,true,true,true,false,false] A2Z with|some (.loop x)=>x|_=>.skip
def A7a:f67.body=some A2Z:=rfl
def A7Z:G5 [true,true,true,true,true,true,true,true,false,false] A2Z=some (.loop A7X):=C4
def A7Y:Tr:=U7 4 2 5 (.fn MA [h 0 9,h 1 9] 1<|eP 6 7 0 (.ret [jI 0,h 0 9,h 3 11,h3 4]) (aA [h3 6,jI 0]<|.lt 9 (.sub) [h 0 9,jI 0,h3 8]<|dX 3 4 10 (.dt 11 (.set 1 0) [h 3 11,h3 4,h 9 9]<|aD [h 1 9]<|aA [h3 6,h3 12]<|.lt 9 (.sub1) [h 0 9,h3 13]<|aA [h3 4,jI 1]<|.ret [jI (-1),h 14 9,h 1 9,h3 2,h 11 11,h3 15]))) (.ret [jI 0,h 0 9,h 3 11,h3 4])
def A2Y:List U->Nat
 | [.str s,.str c,.int .i64 n,u_a,.int .i64 i]=>(match I0 rS u_a with|some a=>(n-i).toNat|none=>0)
 | _=>0
def A2X(s:B1)(c:B1)(n:Int)(a:(Option (List B1)))(i:Int):A2Y [.str s,.str c,.int .i64 n,B9 rS a,.int .i64 i]=(n-i).toNat:=by
 simp only[A2Y,G2]
def B1N{G}(u:K2 G):∀ (E:Nat->U) (base:Nat),@L9 ⟨E,G⟩ prog base gl f67.ntmps A7X (K5 prog gl n0 22 A7b vW):=by
 refine P9 (dep:=60) (f:=67) (n0:=n0) (nB:=22) (H0:=H0) A2Y A7Y (cxg (B2n.2 u) .nil) u func67 A7a A7Z C4 C4 C4 ?_;intro us d outs m;have v:=m;unfold vW at m;split at m
 .skip;rename_i s c n w i;have q:=A7.1 m;clear m;obtain⟨a,l,m⟩:=q;replace l:=F7 l;subst l;split at m
  .rename_i o;clear m v;have y:=A9K s (c.getD 0 0);refine⟨rfl,?_⟩;unfold A7Y;refine w0 (.cons 4 _ (.cons 3 _ (.cons 2 _ (.cons 1 _ (.cons 0 _ (.nil)))))) ?_;refine q9 ?_;refine w5 (fun g0=>?_) fun g0=>?_
   .refine w7 [.int .i64 _,.str _,B9 rS _,.int .i64 _] ?_;refine H9 (d:=0) ?_;rw[sT _ _ _ _ _ o];refine UN ?_ o.2.1 o.2.2.2.2.2.2;first|exact JR A2|(rw[show(n-i).toNat=0 by omega];rfl)
   refine w31 MA (e:=A4w _ _ A2) (k':=?_);refine q9 ?_;refine w4 (fun g1=>?_) fun g1=>?_
   .refine w7 [.int .i64 _,.str _,B9 rS _,.int .i64 _] ?_;refine H9 (d:=0) ?_;rw[sT _ _ _ _ _ o];refine UN ?_ o.2.1 o.2.2.2.2.2.2;first|exact JR A2|(rw[show(n-i).toNat=0 by omega];rfl)
   first|refine aM ?_|refine U8 ?_
   refine w1 (.sub) (e:=eC _ _ _ _ _ A2 A2 A2) (k':=?_);refine d9 ?_;refine w5 (fun g2=>?_) fun g2=>?_
   .refine w8 ?_;first|omega|(simp_all;done)|(simp_all;omega)
   refine w2 (.set 1 0) (r:=rS) (e:=HW _ rfl (A1 rfl) A2 A2 rfl) (k':=?_);refine iX ?_;first|refine aM ?_|refine U8 ?_
   refine w1 (.sub1) (e:=nZ _ _ _ A2 A2) (k':=?_);first|refine aM ?_|refine U8 ?_
   refine w7 [.int .i64 _,.str _,.str _,.int .i64 _,B9 rS _,.int .i64 _] ?_;refine L2 ?_ ?_
   .have x:(c.length:Int)=1:=A2;rw[x,sT _ _ _ _ _ ⟨o.1,A2,A2,by rw[xJ,P7];omega,by rw[xJ,P7];omega,by rw[E4];omega,rfl⟩,sT _ _ _ _ _ o,A39 o.2.1 g0 rfl g1];rfl
   .rw[A2X,A2X];omega
  .cases m
 .cases m
noncomputable def B27:List LpE:=(67,([true,true,true,true,true,true,true,true,false,false],K5 prog gl n0 22 A7b vW))::[]
def A3u{G}(e:K2 G):U2 prog G gl B27:=.cons func67 A7a A7Z (B1N e) .nil
def ZA{c:UInt8}:∀ (k:Nat) (a:List B1) (s:B1) (i:Nat),(spl c k a s i).1.length=a.length/\i<=(spl c k a s i).2.2/\(spl c k a s i).2.2<=i+k
 | 0,a,s,i=>⟨rfl,A6 _,A6 _⟩
 | k+1,a,s,i=>by
   unfold spl;split
   .exact⟨rfl,A6 _,by show i<=i+(k+1);omega⟩
   .obtain⟨h1,e,h3⟩:=ZA (c:=c) k (a.set i (s.take (Lib.indexByte s c).toNat)) (s.drop ((Lib.indexByte s c).toNat+1)) (i+1);rw[P7]at h1;exact⟨h1,A2,A2⟩
def oH(s:B1)(c:UInt8):=spl c (min (s.count c+1) (s.length+1)-1) (List.replicate (min (s.count c+1) (s.length+1)) []) s 0
def A3_(s:B1)(c:UInt8):((el (some (oH s c).1)).length:Int)=min (s.count c+1) (s.length+1)/\(oH s c).2.2<min (s.count c+1) (s.length+1):=by
 obtain⟨h1,e,h3⟩:=ZA (c:=c) (min (s.count c+1) (s.length+1)-1) (List.replicate (min (s.count c+1) (s.length+1)) []) s 0;rw[T8]at h1;unfold oH el;exact⟨by show((spl _ _ _ _ _).1.length:Int)=_;omega,A2⟩
def B1O{s c:B1}(f:c.length=1)(m:s.length<=100000):vW [.str s,.str c,.int .i64 (min ((Lib.countByte s (c.getD 0 0):Int)+1) ((s.length:Int)+1)-1),B9 rS (some (List.replicate (min ((Lib.countByte s (c.getD 0 0):Int)+1) ((s.length:Int)+1)).toNat [])),.int .i64 0]=some (0,[.str (oH s (c.getD 0 0)).2.1,B9 rS (some (oH s (c.getD 0 0)).1),.int .i64 (oH s (c.getD 0 0)).2.2]):=by
 have l:(min ((Lib.countByte s (c.getD 0 0):Int)+1) ((s.length:Int)+1)).toNat=min (s.count (c.getD 0 0)+1) (s.length+1):=by unfold Lib.countByte;omega
 have e:(min ((Lib.countByte s (c.getD 0 0):Int)+1) ((s.length:Int)+1)-1-0).toNat=min (s.count (c.getD 0 0)+1) (s.length+1)-1:=A2;rw[sT _ _ _ _ _ ⟨f,A2,A2,by rw[O1,T8];omega,by rw[O1,T8];omega,A2,rfl⟩,O1,l,e];rfl
def A01(s:B1)(c:UInt8):B9 rS (lH (JY (some (oH s c).1) ((oH s c).2.2:Int).toNat (oH s c).2.1) (0:Int).toNat ((oH s c).2.2+1:Int).toNat)=B9 rS (some (sp c s)):=by
 rw[<- zA];have e:((oH s c).2.2+1:Int).toNat=(oH s c).2.2+1:=A2;rw[e];rfl
noncomputable def B2F:P2:=⟨_,fun e=>(.cons (A7y e) .nil)⟩
def CR:List U->Option (Nat×List U)
 | [.str s,.str c]=>if c.length=1/\s.length<=100000 then some (0,[B9 rS ((some (sp (c.getD 0 0) s)))])else none
 | _=>none
def A38(s:B1)(c:B1)(e:c.length=1/\s.length<=100000):CR [.str s,.str c]=some (0,[B9 rS ((some (sp (c.getD 0 0) s)))]):=B0 e
def A5w:Tr:=aE [h 1 9,.string ⟨⟨[]⟩⟩]<|.br 2 (.no) (.fn NB [h 0 9,h 1 9] 1<|aA [h3 3,jI 1]<|aD [h 0 9]<|aA [h3 5,jI 1]<|.lt 3 (.min) [h3 4,h3 6]<|.dt 11 (.rep 1) [h3 7,.string ⟨⟨[]⟩⟩]<|aS [h3 7,jI 1]<|.fn vW [h 0 9,h 1 9,h3 9,h 8 11,jI 0] 3<|dX 11 12 13 (.dt 11 (.set 1 0) [h 11 11,h3 12,h 10 9]<|aA [h3 12,jI 1]<|.dt 11 (.subs 1) [h 14 11,jI 0,h3 15]<|.ret [h 16 11]))
def A5x{G}(f:K2 G):L8 prog G 31 [.s 9,.s 9] CR [.s 11]:=by
 refine G3 (d:=60) A5w (cxg (B2F.2 f) (A3u f)) f ⟨f31,_,func31,rfl⟩ C4 C4 ?_;intro us outs l;unfold CR at l;split at l
 .skip;rename_i s c;split at l
  .rename_i m;cases l;have o:Lib.countByte s (c.getD 0 0)<=s.length:=dG;have n:=A3_ s (c.getD 0 0);have q:((el (JY (some (oH s (c.getD 0 0)).1) ((oH s (c.getD 0 0)).2.2:Int).toNat (oH s (c.getD 0 0)).2.1)).length:Int)=(el (some (oH s (c.getD 0 0)).1)).length:=by rw[xJ,P7]
   unfold A5w;refine w0 (.cons 1 _ (.cons 0 _ (.nil))) ?_;refine OD ?_;refine w4 (fun g0=>?_) fun g0=>?_
   .refine w8 ?_;first|omega|(exfalso;subst g0;exact absurd m.1 F0)
   refine w31 NB (e:=A5U _ _ A2) (k':=?_);first|refine aM ?_|refine U8 ?_
   refine iX ?_;first|refine aM ?_|refine U8 ?_
   refine A34 ?_;refine w2 (.rep 1) (r:=rS) (e:=A46 rfl A2 A2 rfl) (k':=?_);first|refine YL ?_|refine JG ?_
   refine w3 vW (e:=B1O m.1 m.2) (k':=?_);show Wk _ _ (.cons _ _ (.cons _ _ (.cons _ _ _)));refine d9 ?_;refine w5 (fun g1=>?_) fun g1=>?_
   .refine w8 ?_;first|omega|(exfalso;subst g0;exact absurd m.1 F0)
   refine w2 (.set 1 0) (r:=rS) (e:=HW _ rfl (A1 rfl) A2 A2 rfl) (k':=?_);first|refine aM ?_|refine U8 ?_
   refine w2 (.subs 1) (r:=rS) (e:=MQ rfl A2 A2 A2) (k':=?_);refine w7 [B9 rS _] ?_;exact F4 (fun z=>[z]) (A01 s (c.getD 0 0))
  .cases l
 .cases l
def A9A(s:B1):Lib.cut s [32]=R0 s:=by
 unfold Lib.cut;rw[Lib.index_one];by_cases h:Lib.indexByte s 32<0
 .rw[A8 A2,A9o (B3w h)]
 .rw[B0 A2,A9n (B3v h)];have e:(Lib.indexByte s 32+1).toNat=(Lib.indexByte s 32).toNat+1:=A2;rw[e];rfl
def EH:List U->Option (Nat×List U)
 | [.str s,.str c]=>if s.length<=100000000/\c=[32]then some (0,[.str ((R0 s).1),.str ((R0 s).2.1),.bool ((R0 s).2.2)])else none
 | _=>none
def A5O(s:B1)(c:B1)(e:s.length<=100000000/\c=[32]):EH [.str s,.str c]=some (0,[.str ((R0 s).1),.str ((R0 s).2.1),.bool ((R0 s).2.2)]):=B0 e
def B1l{G}(m:K2 G):L8 prog G 91 [.s 9,.s 9] EH [.s 9,.s 9,.s 8]:=by
 intro us outs w vs R l f o hR;unfold EH at f;split at f
 .skip;rename_i s c;split at f
  .rename_i u;cases f;have hv:=V3 (vs2:=[.string ⟨⟨s⟩⟩,.string ⟨⟨c⟩⟩]) l rfl;subst hv;refine gN (vr:=[.string ⟨⟨(R0 s).1⟩⟩,.string ⟨⟨(R0 s).2.1⟩⟩,.bool (R0 s).2.2]) func91 rfl C4 rfl ?_;obtain⟨v,rfl⟩:=u;refine(Tryz.strings_Cut_shaped ⟨⟨s⟩⟩ ⟨⟨[32]⟩⟩ w (wP m o) (by show s.length<_;omega)).mono fun e w' ⟨h1,n,q⟩=>⟨?_,by subst q;exact⟨rfl,rfl,rfl,A6 _,fun _ _=>rfl⟩⟩
   rw[show Lib.cut (ByteArray.mk (Array.mk s)).data.toList (ByteArray.mk (Array.mk [32])).data.toList=R0 s from A9A s]at h1;exact h1
  .cases f
 .cases f
def lbn{s S:B1}{R B:Bool}(h:bnR s=R/\bnA s=S)(e:B=decide ((R0 S).2.2=true/\CC (R0 S).1=0/\(R0 S).2.1≠[])):[U.int .i64 (kpO (R0 S).1).1,.int .i64 (kpO (R0 S).1).2.1,.int .i64 (kpO (R0 S).1).2.2.1,.int .i64 (kpO (R0 S).1).2.2.2.1,.int .i64 (kpO (R0 S).1).2.2.2.2.1,.int .i64 (kpO (R0 S).1).2.2.2.2.2.1,.int .i64 (kpO (R0 S).1).2.2.2.2.2.2.1,.str (kpO (R0 S).1).2.2.2.2.2.2.2,.str (R0 S).2.1,.bool R,.bool B]=[U.int .i64 (bnG s).1,.int .i64 (bnG s).2.1,.int .i64 (bnG s).2.2.1,.int .i64 (bnG s).2.2.2.1,.int .i64 (bnG s).2.2.2.2.1,.int .i64 (bnG s).2.2.2.2.2.1,.int .i64 (bnG s).2.2.2.2.2.2.1,.str (bnG s).2.2.2.2.2.2.2.1,.str (bnG s).2.2.2.2.2.2.2.2.1,.bool (bnG s).2.2.2.2.2.2.2.2.2,.bool (decide (bnP s))]:=by
 obtain⟨rfl,rfl⟩:=h;subst e;rw[(zP _).1];rfl
def B4B{s:B1}(h:¬3<=(s.length:Int)):bnR s=false/\bnA s=s:=by
 have e:bnR s=false:=E3 fun k=>h A2
 exact⟨e,by unfold bnA;rw[e,A8 F0]⟩
def B1w{s:B1}(h:¬List.take ((3:Int).toNat-(0:Int).toNat) (List.drop (0:Int).toNat s)=[45,114,32]):bnR s=false/\bnA s=s:=by
 have e:bnR s=false:=E3 fun k=>h k.1
 exact⟨e,by unfold bnA;rw[e,A8 F0]⟩
def B1v{s:B1}(h:List.drop (3:Int).toNat s=[]):bnR s=false/\bnA s=s:=by
 have e:bnR s=false:=E3 fun k=>by
  have:=F4 List.length h;have q:=k.2;rw[E4]at this;simp at this;omega
 exact⟨e,by unfold bnA;rw[e,A8 F0]⟩
def B1u{s:B1}(h:List.take ((3:Int).toNat-(0:Int).toNat) (List.drop (0:Int).toNat s)=[45,114,32])(f:List.drop (3:Int).toNat s≠[]):bnR s=true/\bnA s=List.drop (3:Int).toNat s:=by
 have e:bnR s=true:=J7 ⟨h,Nat.lt_of_not_le fun k=>f (S4 k)⟩;exact⟨e,by unfold bnA;rw[e,B0 rfl];rfl⟩
def B4L{S:B1}(h:(R0 S).2.2=false):false=decide ((R0 S).2.2=true/\CC (R0 S).1=0/\(R0 S).2.1≠[]):=(E3 fun k=>by rw[h]at k;cases k.1).symm
def B4K{S:B1}(h:¬kpE (R0 S).1=0):false=decide ((R0 S).2.2=true/\CC (R0 S).1=0/\(R0 S).2.1≠[]):=(E3 fun k=>h ((zP _).2.trans k.2.1)).symm
def B4J{S:B1}(h1:(R0 S).2.2=true)(h:kpE (R0 S).1=0):decide ((R0 S).2.1≠[])=decide ((R0 S).2.2=true/\CC (R0 S).1=0/\(R0 S).2.1≠[]):=by
 rw[(zP _).2]at h;exact decide_eq_decide.2 ⟨fun k=>⟨h1,h,k⟩,fun k=>k.2.2⟩
def VF(s:B1):(R0 s).1.length<=s.length:=by
 unfold R0;split
 .show(List.take _ s).length<=_;rw[G0];omega
 .exact A6 _
noncomputable def B2w:P2:=⟨_,fun e=>(.cons (B1l e) (.cons (SX e) .nil))⟩
def BC:List U->Option (Nat×List U)
 | [.str s]=>if s.length<=100000 then some (0,[.int .i64 ((bnG s).1),.int .i64 ((bnG s).2.1),.int .i64 ((bnG s).2.2.1),.int .i64 ((bnG s).2.2.2.1),.int .i64 ((bnG s).2.2.2.2.1),.int .i64 ((bnG s).2.2.2.2.2.1),.int .i64 ((bnG s).2.2.2.2.2.2.1),.str ((bnG s).2.2.2.2.2.2.2.1),.str ((bnG s).2.2.2.2.2.2.2.2.1),.bool ((bnG s).2.2.2.2.2.2.2.2.2),.bool (decide (bnP s))])else none
 | _=>none
def A5Z(s:B1)(e:s.length<=100000):BC [.str s]=some (0,[.int .i64 ((bnG s).1),.int .i64 ((bnG s).2.1),.int .i64 ((bnG s).2.2.1),.int .i64 ((bnG s).2.2.2.1),.int .i64 ((bnG s).2.2.2.2.1),.int .i64 ((bnG s).2.2.2.2.2.1),.int .i64 ((bnG s).2.2.2.2.2.2.1),.str ((bnG s).2.2.2.2.2.2.2.1),.str ((bnG s).2.2.2.2.2.2.2.2.1),.bool ((bnG s).2.2.2.2.2.2.2.2.2),.bool (decide (bnP s))]):=B0 e
def RF(n:Nat):Tr:=.fn EH [h 0 9,.string ⟨⟨[32]⟩⟩] 3<|.fn rR [h n 9] 9<|.br (n+2) (J9 (n+11) (n+12) 0 (aN [h (n+1) 9,.string ⟨⟨[]⟩⟩]<|.ret [h3 (n+3),h3 (n+4),h3 (n+5),h3 (n+6),h3 (n+7),h3 (n+8),h3 (n+9),h (n+10) 9,h (n+1) 9,.bool false,h (n+13) 8]) (.ret [h3 (n+3),h3 (n+4),h3 (n+5),h3 (n+6),h3 (n+7),h3 (n+8),h3 (n+9),h (n+10) 9,h (n+1) 9,.bool false,.bool false])) (.ret [h3 (n+3),h3 (n+4),h3 (n+5),h3 (n+6),h3 (n+7),h3 (n+8),h3 (n+9),h (n+10) 9,h (n+1) 9,.bool false,.bool false])
def A76:Tr:=aJ 3 0 1 (.lt 9 (.sub) [h 0 9,jI 0,jI 3]<|aE [h 3 9,.string ⟨⟨[45,114,32]⟩⟩]<|M7 4 5 (RF 6) (fY 3 0 6 (.fn EH [h 6 9,.string ⟨⟨[32]⟩⟩] 3<|.fn rR [h 8 9] 9<|.br 10 (J9 19 20 0 (aN [h 9 9,.string ⟨⟨[]⟩⟩]<|.ret [h3 11,h3 12,h3 13,h3 14,h3 15,h3 16,h3 17,h 18 9,h 9 9,.bool true,h 21 8]) (.ret [h3 11,h3 12,h3 13,h3 14,h3 15,h3 16,h3 17,h 18 9,h 9 9,.bool true,.bool false])) (.ret [h3 11,h3 12,h3 13,h3 14,h3 15,h3 16,h3 17,h 18 9,h 9 9,.bool true,.bool false])) (RF 8))) (RF 3)
def A77{G}(l:K2 G):L8 prog G 55 [.s 9] BC [.a [3,3,3,3,3,3,3,9,9,8],.s 8]:=by
 refine G3 (d:=60) A76 (cxg (B2w.2 l) .nil) l ⟨f55,_,func55,rfl⟩ C4 C4 ?_;intro us outs f;unfold BC at f;split at f
 .skip;rename_i s;split at f
  .rename_i o;cases f;unfold A76;refine w0 (.cons 0 _ (.nil)) ?_;repeat (first|refine w4 (fun g=>?_) fun g=>?_|refine w4B (fun g=>?_) fun g=>?_|(refine w7 [.int .i64 _,.int .i64 _,.int .i64 _,.int .i64 _,.int .i64 _,.int .i64 _,.int .i64 _,.str _,.str _,.bool _,.bool _] ?_;rotate_left)|refine OC ?_|(refine w3 EH (e:=A5O _ _ ⟨by first|omega|(rw[E4];omega),rfl⟩) (k':=?_);show Wk _ _ (.cons _ _ (.cons _ _ (.cons _ _ _))))|(refine w3 rR (e:=SW _ (by have n:=VF s;have m:=VF (List.drop (3:Int).toNat s);rw[E4]at m;omega)) (k':=?_);show Wk _ _ (.cons _ _ (.cons _ _ (.cons _ _ (.cons _ _ (.cons _ _ (.cons _ _ (.cons _ _ (.cons _ _ (.cons _ _ _))))))))))|refine fS ?_|refine iX ?_|refine lE ?_|refine w1 (.sub) (e:=eC _ _ _ _ _ A2 A2 A2) (k':=?_)|refine OD ?_|refine u5 ?_|refine w1 (.sub1) (e:=nZ _ _ _ A2 A2) (k':=?_))
   all_goals
    refine lbn (by first|exact B4B ‹_›|exact B1w ‹_›|exact B1w (D3.1 ‹_›)|exact B1v ‹_›|exact B1v (D3.1 ‹_›)|exact B1u ‹_› ‹_›|exact B1u (D3.1 ‹_›) ‹_›) ?_;first|exact B4L ‹_›|exact B4K ‹_›|exact B4J ‹_› ‹_›
    all_goals (trace_state;done)
  .cases f
 .cases f
def B0M{s c:B1}(e:c=[10])(h:(s.length:Int)<=16384):CR [.str s,.str c]=some (0,[B9 rS (some (sp 10 s))]):=by
 subst e;exact A38 _ _ ⟨rfl,A2⟩
def B3d{l:List B1}(h0:0<=i)(h1:i<(l.length:Int)):P5 acc (some ((l.drop i.toNat).map lnG))=P5 (P5 acc (some [lnG (l.getD i.toNat default)])) (some ((l.drop (i+1).toNat).map lnG)):=by
 rw[R4 l h0 h1,C3,oG];rfl
def B3e{l:List B1}(h:(l.length:Int)<=i):P5 acc (some ((l.drop i.toNat).map lnG))=acc:=by
 rw[bB l h];exact AS acc
def B3k{s:B1}(h:¬¬List.take ((5:Int).toNat-(0:Int).toNat) (List.drop (0:Int).toNat s)=[98,105,110,100,32])(e:¬¬bnP (List.drop (5:Int).toNat s)):mB s=false:=A9B ⟨D3.1 h,D3.1 e⟩
def B3n{s:B1}(h:¬5<=(s.length:Int)):mB s=true:=PT fun k=>by
 have:=F4 List.length k.1;rw[G0]at this;have this:min 5 s.length=5:=this;omega
def B3m{s:B1}(h:¬List.take ((5:Int).toNat-(0:Int).toNat) (List.drop (0:Int).toNat s)=[98,105,110,100,32]):mB s=true:=PT fun k=>h k.1
def B3l{s:B1}(e:¬bnP (List.drop (5:Int).toNat s)):mB s=true:=PT fun k=>e k.2
noncomputable def B2X:P2:=⟨_,fun e=>(.cons (A5x e) (.cons (SX e) (.cons (A1w e) (.cons (A77 e) .nil))))⟩
def vQ:List U->Option (Nat×List U)
 | [u_ls,.int .i64 n,.int .i64 i,.int .i64 p1,.int .i64 p2,.int .i64 p3,.int .i64 p4,.int .i64 p5,.int .i64 p6,.int .i64 p7,.str p8,u_acc]=>(I0 rS u_ls).bind fun ls=>(I0 rG u_acc).bind fun acc=>if n=((el ls).length:Int)/\0<=i/\i<=n/\n<=20000/\((el acc).length:Int)<=i/\(∀ x ∈ el ls,x.length<=20000)then X9 (J3 mB ((el ls).drop i.toNat) i) [.int .i64 p1,.int .i64 p2,.int .i64 p3,.int .i64 p4,.int .i64 p5,.int .i64 p6,.int .i64 p7,.str p8,B9 rG (P5 acc (some (((el ls).drop i.toNat).map lnG)))] (fun _=>[])else none
 | _=>none
def rO(ls:(Option (List B1)))(n:Int)(i:Int)(e:Int)(u:Int)(l:Int)(q:Int)(s:Int)(m:Int)(f:Int)(o:B1)(acc:(Option (List (Int×Int×Int×Int×Int×Int×Int×B1×B1×Bool))))(v:n=((el ls).length:Int)/\0<=i/\i<=n/\n<=20000/\((el acc).length:Int)<=i/\(∀ x ∈ el ls,x.length<=20000)):vQ [B9 rS ls,.int .i64 n,.int .i64 i,.int .i64 e,.int .i64 u,.int .i64 l,.int .i64 q,.int .i64 s,.int .i64 m,.int .i64 f,.str o,B9 rG acc]=X9 (J3 mB ((el ls).drop i.toNat) i) [.int .i64 e,.int .i64 u,.int .i64 l,.int .i64 q,.int .i64 s,.int .i64 m,.int .i64 f,.str o,B9 rG (P5 acc (some (((el ls).drop i.toNat).map lnG)))] (fun _=>[]):=by
 simp only[vQ,G2,D8];exact B0 v
def A6q:Q0:=⟨[(2,.pointer (some ⟨16,0,none⟩)),(10,.pointer (some ⟨19,0,none⟩)),(61,dat 20 0 11),(62,h 1 3),(63,h 2 3)],[(16,.cells 35 [.int .i64 (0),.int .i64 (0),.int .i64 (0),.int .i64 (0),.int .i64 (0),.int .i64 (0),.int .i64 (0),.string ⟨⟨[]⟩⟩,.slice none 0 0]),(19,.cells 35 [h 3 3,h 4 3,h 5 3,h 6 3,h 7 3,h 8 3,h 9 3,h 10 9,own 21 11 20]),(21,.sq 11 20 32 22),(20,.frz),(22,.frz)],12,[⟨.exit 0,[(2,.pointer (some ⟨16,0,none⟩)),(10,.pointer (some ⟨19,0,none⟩))],[(16,.cells 35 [.int .i64 (0),.int .i64 (0),.int .i64 (0),.int .i64 (0),.int .i64 (0),.int .i64 (0),.int .i64 (0),.string ⟨⟨[]⟩⟩,.slice none 0 0]),(19,.cells 35 [h 0 3,h 1 3,h 2 3,h 3 3,h 4 3,h 5 3,h 6 3,h 7 9,own 23 8 20]),(23,.sq 8 20 32 24),(24,.frz)],9⟩,⟨.ret,[(2,.pointer (some ⟨16,0,none⟩)),(3,.int .i64 (6))],[(16,.cells 35 [.int .i64 (0),.int .i64 (0),.int .i64 (0),.int .i64 (0),.int .i64 (0),.int .i64 (0),.int .i64 (0),.string ⟨⟨[]⟩⟩,.slice none 0 0])],0⟩]⟩
noncomputable def A0w:Code:=(f23.body).getD .skip
noncomputable def A6m:Code:=match G5 [true,true,true,true,true,true,true,true,false,true,false] A0w with|some (.loop x)=>x|_=>.skip
def A6p:f23.body=some A0w:=rfl
def A6o:G5 [true,true,true,true,true,true,true,true,false,true,false] A0w=some (.loop A6m):=C4
def A6n:Tr:=U7 2 1 12 (dX 0 2 13 (.lt 9 (.get 1 0) [h 0 11,h3 2]<|aJ 5 14 15 (.lt 9 (.sub) [h 14 9,jI 0,jI 5]<|aE [h 17 9,.string ⟨⟨[98,105,110,100,32]⟩⟩]<|M7 18 19 (.fn BC [h 14 9] 11<|I9 1) (.lt 9 (.sub1) [h 14 9,jI 5]<|.fn BC [h 20 9] 11<|M7 31 32 (I9 1) (.dt 20 (.snoc 10) [h 11 20,h3 21,h3 22,h3 23,h3 24,h3 25,h3 26,h3 27,h 28 9,h 29 9,h 30 8]<|aA [h3 2,jI 1]<|.ret [jI (-1),h 0 11,h3 1,h3 34,h3 3,h3 4,h3 5,h3 6,h3 7,h3 8,h3 9,h 10 9,h 33 20]))) (.fn BC [h 14 9] 11<|I9 1))) (.ret [jI 0,h3 3,h3 4,h3 5,h3 6,h3 7,h3 8,h3 9,h 10 9,h 11 20])
def A0v:List U->Nat
 | [u_ls,.int .i64 n,.int .i64 i,.int .i64 p1,.int .i64 p2,.int .i64 p3,.int .i64 p4,.int .i64 p5,.int .i64 p6,.int .i64 p7,.str p8,u_acc]=>(match I0 rS u_ls with|some ls=>(match I0 rG u_acc with|some acc=>(n-i).toNat|none=>0)|none=>0)
 | _=>0
def A0u(ls:(Option (List B1)))(n:Int)(i:Int)(e:Int)(u:Int)(l:Int)(q:Int)(s:Int)(m:Int)(f:Int)(o:B1)(acc:(Option (List (Int×Int×Int×Int×Int×Int×Int×B1×B1×Bool)))):A0v [B9 rS ls,.int .i64 n,.int .i64 i,.int .i64 e,.int .i64 u,.int .i64 l,.int .i64 q,.int .i64 s,.int .i64 m,.int .i64 f,.str o,B9 rG acc]=(n-i).toNat:=by
 simp only[A0v,G2]
def B0f{G}(x:K2 G):∀ (E:Nat->U) (base:Nat),@L9 ⟨E,G⟩ prog base gl f23.ntmps A6m (K5 prog gl n0 25 A6q vQ):=by
 refine P9 (dep:=60) (f:=23) (n0:=n0) (nB:=25) (H0:=H0) A0v A6n (cxg (B2X.2 x) .nil) x func23 A6p A6o C4 C4 C4 ?_;intro us d outs q;have J:=q;unfold vQ at q;split at q
 .skip;rename_i L n i y I F H C A D B K;have w:=A7.1 q;clear q;obtain⟨ls,o,q⟩:=w;replace o:=F7 o;subst o;have v:=A7.1 q;clear q;obtain⟨acc,m,q⟩:=v;replace m:=F7 m;subst m;split at q
  .rename_i s;clear q J;have M:i<n->((el ls).getD i.toNat default).length<=20000:=fun h=>s.2.2.2.2.2 _ (m7 s.2.1 A2)
   refine⟨rfl,?_⟩;unfold A6n;refine w0 (.cons 11 _ (.cons 10 _ (.cons 9 _ (.cons 8 _ (.cons 7 _ (.cons 6 _ (.cons 5 _ (.cons 4 _ (.cons 3 _ (.cons 2 _ (.cons 1 _ (.cons 0 _ (.nil))))))))))))) ?_;repeat (first|refine w4 (fun g=>?_) fun g=>?_|refine w4B (fun g=>?_) fun g=>?_|refine u5 ?_|refine qG ?_|(refine w3 BC (e:=A5Z _ (by have z:=M ‹_›;first|omega|(rw[E4];omega))) (k':=?_);show Wk _ _ (.cons _ _ (.cons _ _ (.cons _ _ (.cons _ _ (.cons _ _ (.cons _ _ (.cons _ _ (.cons _ _ (.cons _ _ (.cons _ _ (.cons _ _ _))))))))))))|(refine w7 [.int .i64 _] ?_;rotate_left)|refine aM ?_|refine U8 ?_|refine q9 ?_|refine d9 ?_|refine w1 (.get 1 0) (u:=.str _) (e:=C5 rfl A2 A2 rfl) (k':=?_)|refine iX ?_|refine lE ?_|refine w1 (.sub) (e:=eC _ _ _ _ _ A2 A2 A2) (k':=?_)|refine OD ?_|refine w1 (.sub1) (e:=nZ _ _ _ A2 A2) (k':=?_)|refine w2 (.snoc 10) (r:=rG) (e:=fJ (a:=lnG ((el ls).getD i.toNat default)) rfl rfl F0 A2) (k':=?_)|(refine w7 [.int .i64 _,B9 rS _,.int .i64 _,.int .i64 _,.int .i64 _,.int .i64 _,.int .i64 _,.int .i64 _,.int .i64 _,.int .i64 _,.int .i64 _,.str _,B9 rG _] ?_;rotate_left)|(refine w8 ?_;first|omega)|(refine w7 [.int .i64 _,.int .i64 _,.int .i64 _,.int .i64 _,.int .i64 _,.int .i64 _,.int .i64 _,.int .i64 _,.str _,B9 rG _] ?_;rotate_left))
   all_goals first
    | refine L2 ?_ ?_
      .rw[rO ls n (i+1) y I F H C A D B _ ⟨s.1,A2,A2,s.2.2.2.1,by rw[O1,D4,N2];omega,s.2.2.2.2.2⟩,rO ls n i y I F H C A D B acc s,Z6 (i:=i) s.2.1 A2 (B3k ‹_› ‹_›),B3d (l:=el ls) (i:=i) s.2.1 A2];rfl
      .rw[A0u,A0u];omega
    | refine H9 (d:=0) ?_
      rw[rO ls n i y I F H C A D B acc s,x9 A2,B3e A2];rfl
    | refine H9 (d:=1) ?_
      have N:mB ((el ls).getD i.toNat default)=true:=by
       first
       | exact B3n ‹_›
       | exact B3m ‹_›
       | exact B3l ‹_›
      rw[rO ls n i y I F H C A D B acc s,w9 (i:=i) s.2.1 A2 N];rfl
  .cases q
 .cases q
noncomputable def B24:List LpE:=(23,([true,true,true,true,true,true,true,true,false,true,false],K5 prog gl n0 25 A6q vQ))::[]
def A3j{G}(e:K2 G):U2 prog G gl B24:=.cons func23 A6p A6o (B0f e) .nil
def B0u{s:B1}{X:Xt}{L:Option (List Gt)}{E:Int}(h1:prX s=X)(e:prL s=L)(h3:prE s=E):[U.int .i64 X.1,.int .i64 X.2.1,.int .i64 X.2.2.1,.int .i64 X.2.2.2.1,.int .i64 X.2.2.2.2.1,.int .i64 X.2.2.2.2.2.1,.int .i64 X.2.2.2.2.2.2.1,.str X.2.2.2.2.2.2.2,B9 rG L,U.int .i64 E]=[U.int .i64 (prX s).1,.int .i64 (prX s).2.1,.int .i64 (prX s).2.2.1,.int .i64 (prX s).2.2.2.1,.int .i64 (prX s).2.2.2.2.1,.int .i64 (prX s).2.2.2.2.2.1,.int .i64 (prX s).2.2.2.2.2.2.1,.str (prX s).2.2.2.2.2.2.2,B9 rG (prL s),U.int .i64 (prE s)]:=by
 subst h1 e h3;rfl
def B0v{s:B1}{E:Int}(h:prE s=E)(e:E≠0):prX s=X0/\prL s=none/\prE s=E:=⟨(B0e (by rw[h];exact e)).1,(B0e (by rw[h];exact e)).2,h⟩
def B3c{L:List B1}(h:¬7<=((L.getD (0:Int).toNat default).length:Int)):¬psP L:=fun k=>by
 have k:=F4 List.length k.1.1;rw[G0]at k;have e:L.getD (0:Int).toNat default=L.headD []:=by cases L<;>rfl
 rw[e]at h;have k:min 7 (L.headD []).length=7:=k;omega
def B3b{L:List B1}(h:¬List.take ((7:Int).toNat-(0:Int).toNat) (List.drop (0:Int).toNat (L.getD (0:Int).toNat default))=[112,114,101,102,105,120,32]):¬psP L:=fun k=>h (by
 have e:L.getD (0:Int).toNat default=L.headD []:=by cases L<;>rfl
 rw[e];exact k.1.1)
def B3a{L:List B1}(h:kpE (List.drop (7:Int).toNat (L.getD (0:Int).toNat default))≠0):¬psP L:=fun k=>h (by
 have e:L.getD (0:Int).toNat default=L.headD []:=by cases L<;>rfl
 rw[e,(zP _).2];exact k.1.2)
def B3Z{L:List B1}(h:(L.length:Int)-1=0):¬psP L:=fun k=>by
 have k:=k.2
 match L,h with
 | [a],_=>cases k
 | [],h=>simp at h
 | a::b::r,h=>simp only[E6]at h;omega
def A0t{L:List B1}(h0:1<=(L.length:Int))(h:¬(L.length:Int)-1=0):L.tail.getLast? = some (L.getD ((L.length:Int)-1).toNat default)/\L.tail.dropLast=((L.drop (1:Int).toNat).take (((L.length:Int)-1).toNat-(1:Int).toNat)).drop (0:Int).toNat:=by
 match L,h0,h with
 | a::b::r,_,_ =>
   have e:(((a::b::r).length:Int)-1).toNat=r.length+1:=by simp only[E6];omega
   rw[e];refine⟨?_,?_⟩
   .show(b::r).getLast? = some ((b::r).getD r.length default);rw[List.getLast?_eq_getElem?,B2];show(b::r)[r.length]? = _;rw[A5 (by simp)];rfl
   .show(b::r).dropLast=(b::r).take r.length;rw[List.dropLast_eq_take];rfl
 | [a],_,h=>exact absurd rfl h
def B3Y{L:List B1}(h0:1<=(L.length:Int))(h1:¬(L.length:Int)-1=0)(h:L.getD ((L.length:Int)-1).toNat default≠[]):¬psP L:=fun k=>by
 have k:=(SH.1 k.2).1;rw[(A0t h0 h1).1]at k;exact h (by injection k)
def B3X{L:List B1}(h0:1<=(L.length:Int))(h1:¬(L.length:Int)-1=0)(h:J3 mB ((el (lH (some L) (1:Int).toNat ((L.length:Int)-1).toNat)).drop (0:Int).toNat) 0=some j):¬psP L:=fun k=>by
 have k:=(SH.1 k.2).2;rw[(A0t h0 h1).2]at k;rw[jP]at h
 have:=(fI h).1;rw[show el (some L)=L from rfl,k]at this;cases this
def B3U{L:List B1}(h0:1<=(L.length:Int))(h1:¬(L.length:Int)-1=0)(f:¬¬List.take ((7:Int).toNat-(0:Int).toNat) (List.drop (0:Int).toNat (L.getD (0:Int).toNat default))=[112,114,101,102,105,120,32])(h3:¬kpE (List.drop (7:Int).toNat (L.getD (0:Int).toNat default))≠0)(l:¬L.getD ((L.length:Int)-1).toNat default≠[])(h:J3 mB ((el (lH (some L) (1:Int).toNat ((L.length:Int)-1).toNat)).drop (0:Int).toNat) 0=none):psP L:=by
 have e:L.getD (0:Int).toNat default=L.headD []:=by cases L<;>rfl
 rw[e]at f h3;refine⟨⟨D3.1 f,?_⟩,SH.2 ⟨?_,?_⟩⟩
 .rw[(zP _).2]at h3;exact D3.1 h3
 .rw[(A0t h0 h1).1,D3.1 l]
 .rw[(A0t h0 h1).2];rw[jP]at h;exact iL h
def B3W{L:List B1}(h0:1<=(L.length:Int))(h1:¬(L.length:Int)-1=0):((el (lH (some L) (1:Int).toNat ((L.length:Int)-1).toNat)).drop (0:Int).toNat).map lnG=rgs L.tail:=by
 unfold rgs;rw[(A0t h0 h1).2,jP];rfl
def B3V{L:List B1}:kpO (List.drop (7:Int).toNat (L.getD (0:Int).toNat default))=zQ ((L.headD []).drop 7):=by
 have e:L.getD (0:Int).toNat default=L.headD []:=by cases L<;>rfl
 rw[e,(zP _).1];rfl
def LQ{s:B1}{E:Int}(h:prE s=E)(e:E≠0):[U.int .i64 0,.int .i64 0,.int .i64 0,.int .i64 0,.int .i64 0,.int .i64 0,.int .i64 0,.str [],B9 rG none,U.int .i64 E]=[U.int .i64 (prX s).1,.int .i64 (prX s).2.1,.int .i64 (prX s).2.2.1,.int .i64 (prX s).2.2.2.1,.int .i64 (prX s).2.2.2.2.1,.int .i64 (prX s).2.2.2.2.2.1,.int .i64 (prX s).2.2.2.2.2.2.1,.str (prX s).2.2.2.2.2.2.2,B9 rG (prL s),U.int .i64 (prE s)] :=
 B0u (X:=X0) (B0v h e).1 (B0v h e).2.1 h
def WB(s:B1):1<=((sp 10 s).length:Int):=by
 have:=ZC s 10;omega
def A8Z{s:B1}(h:¬16384<(s.length:Int)):((sp 10 s).length:Int)<=16385:=by
 have:=ZC s 10;have e:s.count 10<=s.length:=dG;omega
def B3N{s:B1}(h:¬16384<(s.length:Int))(h1:¬((sp 10 s).length:Int)-1=0)(hp:psP (sp 10 s)):prE s=uO (kpO (List.drop (7:Int).toNat ((sp 10 s).getD (0:Int).toNat default))) (el (P5 none (some (((el (lH (some (sp 10 s)) (1:Int).toNat (((sp 10 s).length:Int)-1).toNat)).drop (0:Int).toNat).map lnG))))/\psX s=kpO (List.drop (7:Int).toNat ((sp 10 s).getD (0:Int).toNat default))/\psL s=(P5 none (some (((el (lH (some (sp 10 s)) (1:Int).toNat (((sp 10 s).length:Int)-1).toNat)).drop (0:Int).toNat).map lnG))):=by
 have e:psX s=kpO (List.drop (7:Int).toNat ((sp 10 s).getD (0:Int).toNat default)):=(B3V (L:=sp 10 s)).symm;have f:psL s=(P5 none (some (((el (lH (some (sp 10 s)) (1:Int).toNat (((sp 10 s).length:Int)-1).toNat)).drop (0:Int).toNat).map lnG))):=by
  unfold psL;rw[B3W (WB s) h1]
 exact⟨by rw[B3S A2 hp,e,f],e,f⟩
def B09(s:B1) : -9223372036854775808<=(zQ s).2.2.1/\(zQ s).2.2.1<=9223372036854775807/\((zQ s).2.2.2.2.2.2.2.length:Int)<=140737488351232:=by
 unfold zQ;split
 .rename_i h;obtain⟨e,h0,h1⟩:=TQ h.1;rw[e];exact⟨by show _<=(kO s).2.2.1;omega,by show(kO s).2.2.1<=_;omega,by show(0:Int)<=_;decide⟩
 .exact⟨F0,F0,by show(0:Int)<=_;decide⟩
def A9m(s:B1):(R0 s).2.1.length<=s.length:=by
 unfold R0;split
 .show(List.drop _ s).length<=_;rw[E4];omega
 .exact nA _
def A5b(s:B1):(bnA s).length<=s.length:=by
 unfold bnA;split
 .rw[E4];omega
 .exact A6 _
def A89{s:B1}(h:s.length<=20000):gOk (lnG s):=by
 have h1:=B09 (R0 (bnA (s.drop 5))).1;have e:=A9m (bnA (s.drop 5));have h3:=A5b (s.drop 5);rw[E4]at h3;refine⟨h1.1,h1.2.1,h1.2.2,?_⟩;show((R0 (bnA (s.drop 5))).2.1.length:Int)<=_;omega
def ZM{s:B1}(h:¬16384<(s.length:Int)){i j:Nat}:∀ x ∈ el (lH (some (sp 10 s)) i j),x.length<=20000:=fun x hx=>by
 rw[jP]at hx
 have:=ZB (dE (dD hx));omega
def B0Z{s:B1}(h:¬16384<(s.length:Int)):((el (P5 none (some (((el (lH (some (sp 10 s)) (1:Int).toNat (((sp 10 s).length:Int)-1).toNat)).drop (0:Int).toNat).map lnG)))).length:Int)<=140737488351232/\∀ g ∈ el (P5 none (some (((el (lH (some (sp 10 s)) (1:Int).toNat (((sp 10 s).length:Int)-1).toNat)).drop (0:Int).toNat).map lnG))),gOk g:=by
 have h1:=A8Z h;rw[eD];show(((List.map lnG ((el (lH (some (sp 10 s)) (1:Int).toNat (((sp 10 s).length:Int)-1).toNat)).drop (0:Int).toNat)).length:Nat):Int)<=_/\∀ g ∈ List.map lnG ((el (lH (some (sp 10 s)) (1:Int).toNat (((sp 10 s).length:Int)-1).toNat)).drop (0:Int).toNat),gOk g;refine⟨?_,fun g e=>?_⟩
 .rw[E7,E4,jP,G0,E4];show(((min _ ((sp 10 s).length-_)-_:Nat)):Int)<=_;omega
 .obtain⟨x,hx,rfl⟩:=I6.1 e;exact A89 (ZM h x (dE hx))
def B3J{s:B1}{i j:Nat}(h:¬16384<(s.length:Int)):((el (lH (some (sp 10 s)) i j)).length:Int)<=20000:=by
 have:=A8Z h;rw[jP,G0,E4];show(((min _ ((sp 10 s).length-_):Nat)):Int)<=_;omega
def A9E(s:B1) : -9223372036854775808<=(kpO s).2.2.1/\(kpO s).2.2.1<=9223372036854775807/\((kpO s).2.2.2.2.2.2.2.length:Int)<=140737488351232:=by rw[(zP s).1];exact B09 s
def B3H{s:B1}(h:¬16384<(s.length:Int)):(((el (some (sp 10 s))).getD (0:Int).toNat default).length:Int)<=140737488351232/\((List.drop (7:Int).toNat ((el (some (sp 10 s))).getD (0:Int).toNat default)).length:Int)<=140737488351232:=by
 have h1:=WB s
 have:=ZB (m7 (l:=sp 10 s) (i:=0) F0 A2);rw[E4];exact⟨by show(((sp 10 s).getD _ _).length:Int)<=_;omega,by show(((((sp 10 s).getD (0:Int).toNat default).length-_:Nat)):Int)<=_;omega⟩
noncomputable def B2W:P2:=⟨_,fun e=>(.cons (A5x e) (.cons (SX e) (.cons (A1w e) (.cons (A77 e) .nil))))⟩
def A6k:List U->Option (Nat×List U)
 | [.str s]=>if(s.length:Int)<=140737488351232 then some (0,[.int .i64 ((prX s).1),.int .i64 ((prX s).2.1),.int .i64 ((prX s).2.2.1),.int .i64 ((prX s).2.2.2.1),.int .i64 ((prX s).2.2.2.2.1),.int .i64 ((prX s).2.2.2.2.2.1),.int .i64 ((prX s).2.2.2.2.2.2.1),.str ((prX s).2.2.2.2.2.2.2),B9 rG (prL s),.int .i64 (prE s)])else none
 | _=>none
def yX(n:Nat):Tr:=.dt 20 (.nilw 10) []<|.ret [jI 0,jI 0,jI 0,jI 0,jI 0,jI 0,jI 0,.string ⟨⟨[]⟩⟩,h n 20,jI 6]
def A0s(n:Nat):Tr:=.fn rR [h 7 9] 9<|yX (n+9)
def A6j:Tr:=aD [h 0 9]<|aG [h3 1,jI 16384]<|.br 2 (.dt 20 (.nilw 10) []<|.ret [jI 0,jI 0,jI 0,jI 0,jI 0,jI 0,jI 0,.string ⟨⟨[]⟩⟩,h 3 20,jI 3]) (.fn CR [h 0 9,.string ⟨⟨[10]⟩⟩] 1<|aD [h 3 11]<|aS [h3 4,jI 1]<|.lt 8 (.inbs 1) [jI 0,h 3 11]<|.br 6 (.lt 9 (.get 1 0) [h 3 11,jI 0]<|aJ 7 7 8 (.lt 9 (.sub) [h 7 9,jI 0,jI 7]<|aE [h 10 9,.string ⟨⟨[112,114,101,102,105,120,32]⟩⟩]<|M7 11 12 (A0s 13) (.lt 9 (.sub1) [h 7 9,jI 7]<|.fn rR [h 13 9] 9<|Z1 22 23 0 (yX 24) (J9 5 24 0 (yX 25) (dX 3 5 25 (.lt 9 (.get 1 0) [h 3 11,h3 5]<|aN [h 26 9,.string ⟨⟨[]⟩⟩]<|.br 27 (yX 28) (.dt 11 (.subs 1) [h 3 11,jI 1,h3 5]<|aD [h 28 11]<|.dt 20 (.nilw 10) []<|.lp vQ [h 28 11,h3 29,jI 0,h3 14,h3 15,h3 16,h3 17,h3 18,h3 19,h3 20,h 21 9,h 30 20] 0 9 (.fn vV [h3 31,h3 32,h3 33,h3 34,h3 35,h3 36,h3 37,h 38 9,h 39 20] 1<|Z1 40 41 0 (.dt 20 (.nilw 10) []<|.ret [jI 0,jI 0,jI 0,jI 0,jI 0,jI 0,jI 0,.string ⟨⟨[]⟩⟩,h 42 20,h3 40]) (.ret [h3 31,h3 32,h3 33,h3 34,h3 35,h3 36,h3 37,h 38 9,h 39 20,jI 0])) (.lp vQ [h 28 11,h3 29,jI 0,h3 14,h3 15,h3 16,h3 17,h3 18,h3 19,h3 20,h 21 9,h 30 20] 1 0 (yX 31) (.no)))))))) (A0s 10)) (.no))
def A6l{G}(f:K2 G):L8 prog G 23 [.s 9] A6k [.a [3,3,3,3,3,3,3,9,20],.s 3]:=by
 refine G3 (d:=60) A6j (cxg (B2W.2 f) (A3j f)) f ⟨f23,_,func23,rfl⟩ C4 C4 ?_;intro us outs l;unfold A6k at l;split at l
 .skip;rename_i s;split at l
  .rename_i n;cases l;have o:1<=((el (some (sp 10 s))).length:Int):=WB s;have m:¬16384<(s.length:Int)->((el (some (sp 10 s))).length:Int)<=16385:=A8Z;unfold A6j;refine w0 (.cons 0 _ (.nil)) ?_;repeat (first|refine w4 (fun g=>?_) fun g=>?_|refine w2 (.nilw 10) (r:=rG) (e:=tB rfl) (k':=?_)|(refine w7 [.int .i64 _,.int .i64 _,.int .i64 _,.int .i64 _,.int .i64 _,.int .i64 _,.int .i64 _,.str _,B9 rG _,.int .i64 _] ?_;rotate_left)|(refine w3 rR (e:=SW _ (by have:=B3H (s:=s) ‹_›;first|exact this.1|exact this.2)) (k':=?_);show Wk _ _ (.cons _ _ (.cons _ _ (.cons _ _ (.cons _ _ (.cons _ _ (.cons _ _ (.cons _ _ (.cons _ _ (.cons _ _ _))))))))))|refine iX ?_|refine bP ?_|refine YL ?_|refine JG ?_|refine d9 ?_|refine w1 (.get 1 0) (u:=.str _) (e:=C5 rfl A2 A2 rfl) (k':=?_)|refine tN ?_|(refine w8 ?_;first|omega)|refine wM ?_|refine w31 CR (e:=B0M rfl A2) (k':=?_)|refine lE ?_|refine w1 (.sub) (e:=eC _ _ _ _ _ A2 A2 A2) (k':=?_)|refine OD ?_|refine u5 ?_|refine w1 (.sub1) (e:=nZ _ _ _ A2 A2) (k':=?_)|refine fS ?_|refine OC ?_|refine w2 (.subs 1) (r:=rS) (e:=MQ rfl A2 A2 A2) (k':=?_)|(refine w6 vQ (rO _ _ _ _ _ _ _ _ _ _ _ _ ⟨rfl,F0,A2,B3J ‹_›,F0,ZM ‹_›⟩) (h0:=fun g=>?_) (h1:=fun v g=>?_);show Wk _ _ (.cons _ _ (.cons _ _ (.cons _ _ (.cons _ _ (.cons _ _ (.cons _ _ (.cons _ _ (.cons _ _ (.cons _ _ _)))))))));rotate_left;skip;rotate_right)|refine w31 vV (e:=TY _ _ _ _ _ _ _ _ _ ⟨(A9E _).1,(A9E _).2.1,(A9E _).2.2,(B0Z ‹_›).1,(B0Z ‹_›).2⟩) (k':=?_))
   all_goals
    first
    | exact LQ (B3T A2) F0
    | exact LQ (WS A2 (B3c ‹_›)) F0
    | exact LQ (WS A2 (B3b ‹_›)) F0
    | exact LQ (WS A2 (B3a ‹_›)) F0
    | exact LQ (WS A2 (B3Z ‹_›)) F0
    | exact LQ (WS A2 (B3Y (WB s) ‹_› ‹_›)) F0
    | exact LQ (WS A2 (B3X (WB s) ‹_› ‹_›)) F0
    | (have hp:=B3N (s:=s) ‹_› ‹_› (B3U (WB s) ‹_› ‹_› ‹_› ‹_› ‹_›)
       first
       | exact LQ hp.1 ‹_›
       | (have h0:prE s=0:=hp.1.trans (D3.1 ‹_›)
          exact B0u ((B0d h0).1.trans hp.2.1) ((B0d h0).2.trans hp.2.2) h0)
)
  .cases l
 .cases l
def eqI(c:Int)(b:UInt8):Bool:=decide ((b.toNat:Int)=c)
def B3x(c:Int)(s:B1):B1×B1×Bool:=match J3 (eqI c) s 0 with
 | some j=>(s.take j.toNat,s.drop (j+1).toNat,true)
 | none=>([],[],false)
def rpB(f:Bool)(s:B1):Bool:=if f=true then decide (psP (sp 10 s))else rok (sp 10 s)
def rpX(f:Bool)(s:B1)(P:Xt):Xt:=if f=true then psX s else P
def rpL(f:Bool)(s:B1)(acc:Option (List Gt)):Option (List Gt):=P5 acc (some (rgs (if f=true then(sp 10 s).tail else sp 10 s)))
attribute [local irreducible] zQ CC B3x bnP bnR bnA rpB rpX rpL
end
section
open Go Go.Sx
open Go Go.Sx Go.Proofs.Tryz
noncomputable def B2s:P2:=⟨_,fun e=>(.cons (A6l e) (.cons (A2A e) .nil))⟩
def A7t:List U->Option (Nat×List U)
 | []=>some (0,[.int .i64 (1),.int .i64 (98),.int .i64 (4),.int .i64 (0),.int .i64 (0),.int .i64 (0),.int .i64 (0),.str ([]),B9 rG (some XL)])
 | _=>none
def B1g{G}(e:K2 G):L8 prog G 30 [] A7t [.a [3,3,3,3,3,3,3,9,20]]:=by
 refine cN (d:=60) (cxg (B2s.2 e) .nil) e ⟨f30,_,func30,rfl⟩ ?_;intro us outs f;unfold A7t at f;split at f
 .cases f;exact⟨[],by kernel_rfl⟩
 .cases f
noncomputable def B2B:P2:=⟨_,fun e=>(.cons (B1g e) (.cons (vU e) (.cons (B2_ e) (.cons (SX e) (.cons (A6l e) (.cons (A8p e) .nil))))))⟩
def IT:List U->Option (Nat×List U)
 | []=>some (0,[.bool (true)])
 | _=>none
def A3y :IT []=some (0,[.bool (true)]):=rfl
def xR{G}(e:K2 G):L8 prog G 16 [] IT [.s 8]:=by
 refine cN (d:=60) (cxg (B2B.2 e) .nil) e ⟨f16,_,func16,rfl⟩ ?_;intro us outs f;unfold IT at f;split at f
 .cases f;exact⟨[1,1,1,1,1,1,1,1,1,1,1,1,1,1,1,1,1,1,1,1,1,1,1,1,1,1,1,1,1,1,1,1,1,1,1,1,1,1,1,1,1,1,1,1,1,1,1,1,1,1,1,1,1,1,1,1,1,1,1,1,1,0,0,0,0,0,0,1,1,1,1],by kernel_rfl⟩
 .cases f
def B01:aB 97 0:=.inl ⟨F0,.inl rfl⟩
def B1i(c m:Int):aB (dC3 c m) (dM c m):=by
 unfold dC3 dM;by_cases h1:aB c (m%8)
 .rw[B0 (.inl h1),B0 h1];exact h1
 .by_cases e:aB c (m%8 / 2%4*2)
  .rw[B0 (.inr (.inl e)),A8 h1,B0 e];exact e
  .by_cases h3:aB c (m / 2%2*2)
   .rw[B0 (.inr (.inr (.inl h3))),A8 h1,A8 e,B0 h3];exact h3
   .rw[A8 h1,A8 e,A8 h3];by_cases f:aB c 0
    .rw[B0 (.inr (.inr (.inr f)))];exact f
    .rw[A8 (fun q=>q.elim h1 fun q=>q.elim e fun q=>q.elim h3 f)];exact B01
def A83(s:B1):(nE s).any isE=false:=by
 rw[bL];intro x hx;unfold nE at hx
 have:=(P6.1 hx).2;intro h;rw[h]at this;cases this
def B1f{q d1 d2 d3 d4 d5 d6 dc:Int}(e:q=0∨q=1∨q=2∨q=3):W7 (diK q) (diC q d3 d4 dc) (diM q d3 d4 dc) (diW q d1) (diB q d1 d2 d3 d5 d6) (diR q d5) (diL q d6) (diT q t):=by
 rcases e with rfl|rfl|rfl|rfl
 .exact .inl ⟨rfl,rfl,rfl,rfl,rfl,rfl,B1i _ _⟩
 .refine .inr (.inl ⟨rfl,rfl,rfl,?_⟩);show msP (d3%8) (d1%4) (if W7 2 0 (d3%8) (d1%4) (d2%4) (d5%40) (d6%80) []then d2%4 else d2%4%2) (d5%40) (d6%80);split
  .rename_i h;rcases h with h|h|h|h
   .exact absurd h.1 F0
   .exact h.2.2.2
   .exact absurd h.1 F0
   .exact absurd h.1 F0
  .unfold msP;omega
 .refine .inr (.inr (.inl ⟨rfl,rfl,rfl,rfl,rfl,rfl,rfl,?_,A83 _⟩))
  have:=A81 (t.take 1000);rw[G0]at this;show(nE (t.take 1000)).length<=1000;omega
 .exact .inr (.inr (.inr ⟨rfl,rfl,rfl,rfl,rfl,rfl,rfl,by show 0<=d1%2;omega,by show d1%2<=1;omega⟩))
def QM(d:Dt):kyP (kIn d):=⟨rfl,B1f (q:=(0:Int)%4) (d1:=d.2.1) (d2:=d.2.2.1) (d3:=d.2.2.2.1) (d4:=d.2.2.2.2.1) (d5:=d.2.2.2.2.2.1) (d6:=d.2.2.2.2.2.2.1) (dc:=d.2.2.2.2.2.2.2.1) (t:=d.2.2.2.2.2.2.2.2) (.inl rfl)⟩
def A99:∀ n:Nat,n<8->uT (W8.getD n []):=F0
def A9H(ws:List Int)(i:Int):uT (kCm ws i):=by
 unfold kCm;split
 .exact A99 _ A2
 .decide
def kI(p:Xt)(a:List Gt):Prop:=(∀ g ∈ a,gP g)/\(a.map gK).Nodup/\p ∉ a.map gK
def B3r(ws:List Int)(i:Int)(d:Dt):gK (kG ws i d)=kIn d:=by unfold gK kG;rfl
def B1A(ws:List Int)(i:Int)(d:Dt):gP (kG ws i d):=⟨QM d,A9H ws i⟩
def B17{x:Xt}{a:List Gt}(h:a.any (gQ x)=false):x ∉ a.map gK:=fun k=>by
 obtain⟨g,f,e⟩:=I6.1 k
 have:=bL.1 h g f;exact this (AH.2 e)
def B05{d:Dt}(h:kI p (el acc)):kI p (el (kdA p ws i d acc)):=by
 unfold kdA;split
 .rename_i c;rw[eD,O1];have l:=B17 c.1;have h3:kIn d≠p:=fun e=>by
   have:=AH.2 e;rw[c.2]at this;cases this
  refine⟨fun g f=>?_,?_,?_⟩
  .rcases B7.1 f with f|f
   .exact h.1 g f
   .obtain rfl:=L4.1 f;exact B1A ws i d
  .rw[M5];refine bJ.2 ⟨h.2.1,by simp,fun a n b m=>?_⟩;obtain rfl:=L4.1 m;exact fun e=>l (by rw[B3r]at e;rw[<- e];exact n)
  .rw[M5];intro k;rcases B7.1 k with k|k
   .exact h.2.2 k
   .exact h3 (L4.1 k).symm
 .exact h
def A7B{p:Xt}{ws:List Int}:∀ {l:List Dt} {i:Int} {acc:Option (List Gt)},kI p (el acc)->kI p (el (kdL p ws l i acc))/\(el (kdL p ws l i acc)).length<=(el acc).length+l.length
 | [],i,acc,h=>⟨h,by show(el acc).length<=_;omega⟩
 | d::l,i,acc,h=>by
   have h1:=A7B (ws:=ws) (l:=l) (i:=i+1) (B05 (ws:=ws) (i:=i) (d:=d) h);have e:=A7D p ws i d acc;refine⟨h1.1,?_⟩;have h3:=h1.2;rw[E6];show(el (kdL p ws l (i+1) (kdA p ws i d acc))).length<=_;omega
def A7A{l:List Dt}(hp:kyP p):kmP p (el (kdL p ws (l.take 20) 0 none))/\(el (kdL p ws (l.take 20) 0 none)).length<=20:=by
 have h:=A7B (p:=p) (ws:=ws) (l:=l.take 20) (i:=0) (acc:=none) ⟨fun g f=>(by cases f),nC,K7⟩;have e:=h.2;have h3:(el (none:Option (List Gt))).length=0:=rfl;rw[h3,G0]at e;exact⟨⟨hp,A2,h.1.1,h.1.2.1,h.1.2.2⟩,A2⟩
def B1Q(h:gP g):gOk g:=by
 obtain⟨h1,n⟩:=h;obtain⟨e,l,f⟩:=TQ h1;have h3:=n.2.1;have m:g.2.2.2.2.2.2.2.1=[]:=F4 (fun x:Xt=>x.2.2.2.2.2.2.2) e;refine⟨?_,?_,?_,?_⟩
 .have:(0:Int)<=g.2.2.1:=l;omega
 .have:g.2.2.1<=(7:Int):=f;omega
 .rw[m];decide
 .have:g.2.2.2.2.2.2.2.2.1.length<=100:=h3;omega
def B3o{x:Xt}{l:Option (List Gt)}(h:kmP x (el l)) : -9223372036854775808<=x.2.2.1/\x.2.2.1<=9223372036854775807/\(x.2.2.2.2.2.2.2.length:Int)<=140737488351232/\((el l).length:Int)<=140737488351232/\(∀ g ∈ el l,gOk g):=by
 obtain⟨e,o,n⟩:=TQ h.1;have f:x.2.2.2.2.2.2.2=[]:=F4 (fun x:Xt=>x.2.2.2.2.2.2.2) e;have q:=h.2.1;exact⟨A2,A2,by rw[f];decide,A2,fun g m=>B1Q (h.2.2.1 g m)⟩
def nB(b:UInt8):Bool:=decide ((b.toNat:Int)<=32) || decide (127<=(b.toNat:Int))
def B0P(t:B1):((shT t).length:Int)<=20:=by
 unfold shT;rw[G0,E4];show(((min ((min (t.length:Int) 20).toNat-0) (t.length-0):Nat)):Int)<=20;omega
def A8d(h:gOk g):gOk (shG g):=by
 unfold gOk at h;refine⟨h.1,h.2.1,?_,?_⟩
 .show(((g.2.2.2.2.2.2.2.1.drop (0:Int).toNat).take _).length:Int)<=_;rw[G0,E4]
  have:=h.2.2.1;omega
 .show(((g.2.2.2.2.2.2.2.2.1.drop (0:Int).toNat).take _).length:Int)<=_;rw[G0,E4]
  have:=h.2.2.2;omega
def ZH{l:List Gt}(h:∀ g ∈ l,gOk g):((el (shL l)).length:Int)<=140737488351232/\∀ g ∈ el (shL l),gOk g:=by
 unfold shL;rw[eD];show(((l.take 70).map shG).length:Int)<=_/\∀ g ∈ (l.take 70).map shG,gOk g;refine⟨by rw[E7,G0];omega,fun g e=>?_⟩;obtain⟨x,hx,rfl⟩:=I6.1 e;exact A8d (h x (dD hx))
def kR(x:Xt)(l:Option (List Gt)):Prop := -9223372036854775808<=x.2.2.1/\x.2.2.1<=9223372036854775807/\(x.2.2.2.2.2.2.2.length:Int)<=140737488351232/\((el l).length:Int)<=140737488351232/\(∀ g ∈ el l,gOk g)
instance(x:Xt)(l:Option (List Gt)):Decidable (kR x l):=by unfold kR;infer_instance
def B08{x:Xt}{l:List Gt}(h0 : -9223372036854775808<=x.2.2.1)(h1:x.2.2.1<=9223372036854775807)(h:∀ g ∈ l,gOk g):kR (x.1,x.2.1,x.2.2.1,x.2.2.2.1,x.2.2.2.2.1,x.2.2.2.2.2.1,x.2.2.2.2.2.2.1,shT t) (shL l):=⟨h0,h1,by have:=B0P t;show((shT t).length:Int)<=_;omega,(ZH h).1,(ZH h).2⟩
end
end Go.Proofs.YtbbicpheoakeeaaGreatDoor
