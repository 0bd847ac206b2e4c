import Derived.Test.YtbbicpheoakeeaaGreatDoorX12
set_option linter.all false
set_option maxRecDepth 100000
set_option maxHeartbeats 4000000
namespace Go.Proofs.YtbbicpheoakeeaaGreatDoor
variable {c d i j k y z:Int}{r:List B0}{a:UInt8}{b p8 t v:B0}{x:Xt}{g:Gt}{a' acc:Option (List Gt)}{ws:List Int}
section
open Go Go.Sx
def HY{α:Type}{p:α->Bool}:∀ {l:List α} {i:Int},(∀ a ∈ l,p a=false)->H8 p l i=none
 | [],_,_=>rfl
 | a::l,i,h=>by
   unfold H8;rw[h a (B4 ..)];exact HY fun b e=>h b (C4 _ e)
def bsF(b:B0):Prop:=b≠[]/\(b.length<=2∨b.getD 1 0≠45)
def A96(c:Int):4<=(o7 c).length:=by
 unfold o7
 (repeat' split)<;>exact A1 rfl
def B5r(h:cR c):bsF (j7 c):=by
 unfold cR at h;by_cases h1:1114113<=c
 .rw[YC h1];have k:∀ n:Nat,n<26->(nmL.getD n [])≠[]/\((nmL.getD n []).length<=2∨(nmL.getD n []).getD 1 0≠45):=E3;exact k _ A2
 .by_cases e:c=32
  .rw[YD e];exact⟨E3,.inr E3⟩
  .by_cases h3:c<=126
   .rw[YE h1 e h3];exact⟨by simp,.inl (by simp)⟩
   .rw[CT h1 e h3];exact⟨by simp,.inr (by show(43:UInt8)≠45;decide)⟩
def wV(a v:_)(m:Int){r:B0}(h:r≠[]):stp [a,45] v ([a,45]++r,m)=(r,m+v):=by
 unfold stp;rw[A8]
 .rfl
 .refine⟨?_,rfl⟩;show 2<([a,45]++r).length;rw[B7]
  have:=eB.2 h;show 2<2+_;omega
def ZH{b:UInt8}(v m:Int){r:B0}(h:b≠a):stp [a,45] v ([b,45]++r,m)=([b,45]++r,m):=by
 unfold stp;rw[A6];intro k
 have:=k.2;exact h (by injection this)
def OX(v m:Int){r:B0}(h:bsF r):stp [a,45] v (r,m)=(r,m):=by
 unfold stp;rw[A6];intro ⟨f,e⟩;have f:2<r.length:=f;rcases h.2 with h|h
 .omega
 .match r,f,e,h with
  | x::y::l,_,e,h =>
    have e:[x,y]=[a,45]:=e;injection e with _ e
    injection e with e
    exact h e
def mdP(n:Int)(a:UInt8):B0:=if n=0 then[]else[a,45]
def QI(a:UInt8):mdP 0 a=[]:=A8 rfl
def A43(a:UInt8):mdP 1 a=[a,45]:=A6 E3
def A42(a:UInt8):mdP 2 a=[a,45]:=A6 E3
def A41(a:UInt8):mdP 4 a=[a,45]:=A6 E3
def B4O{x:Int}(hx:x=0∨x=4)(f:y=0∨y=2)(l:z=0∨z=1)(h:bsF b):stp [83,45] 1 (stp [77,45] 2 (stp [67,45] 4 (mdP x 67++(mdP y 77++(mdP z 83++b)),0)))=(b,x+y+z):=by
 have e:=h.1;rcases hx with rfl|rfl<;>rcases f with rfl|rfl<;>rcases l with rfl|rfl
 .simp only[QI,G7];rw[OX _ _ h,OX _ _ h,OX _ _ h];first|done|rfl
 .simp only[QI,A43,G7];rw[ZH _ _ E3,ZH _ _ E3,wV _ _ _ e];first|done|rfl
 .simp only[QI,A42,G7];rw[ZH _ _ E3,wV _ _ _ e,OX _ _ h];first|done|rfl
 .simp only[QI,A42,A43,G7];rw[ZH _ _ E3,wV _ _ _ (by simp),wV _ _ _ e];first|done|rfl
 .simp only[A41,QI,G7];rw[wV _ _ _ e,OX _ _ h,OX _ _ h];first|done|rfl
 .simp only[A41,QI,A43,G7];rw[wV _ _ _ (by simp),ZH _ _ E3,wV _ _ _ e];first|done|rfl
 .simp only[A41,A42,QI,G7];rw[wV _ _ _ (by simp),wV _ _ _ e,OX _ _ h];first|done|rfl
 .simp only[A41,A42,A43];rw[wV _ _ _ (by simp),wV _ _ _ (by simp),wV _ _ _ e];first|done|rfl
def B2K(h0:0<=d)(h1:d<16):hD (hU d)=d/\hv ((hU d).toNat:Int)=d:=by
 have k:∀ n:Nat,n<16->hD (hU n)=n/\hv ((hU n).toNat:Int)=n:=E3
 have:=k d.toNat A2
 rwa[show((d.toNat:Nat):Int)=d by omega]at this
def B5Y{n:Int}{l:B0}(h0:0<=d)(h1:d<16):hR (hU d::l) n=hR l (16*n+d):=by
 show(if hD (hU d)<0 then none else hR l (16*n+hD (hU d)))=_;rw[(B2K h0 h1).1,A6 A2]
def B4u{n:Int}{l:List Int}(h0:0<=d)(h1:d<16):pu (((hU d).toNat:Int)::l) n=pu l (n*16+d):=by
 show(if hv _<0 then none else pu l (n*16+hv _))=_;rw[(B2K h0 h1).2,A6 A2]
def B2G(h0:0<=c)(h1:c<16777216):hR (o7 c) 0=some c:=by
 unfold o7
 (repeat' split)<;>(repeat rw[B5Y A2 A2])<;>exact E1 some A2
def B2H(h0:0<=c)(h1:c<16777216):pu (bI (o7 c)) 0=some c:=by
 unfold o7
 (repeat' split)<;>(unfold bI;simp only[C5,G1])<;>(repeat rw[B4u A2 A2])<;>exact E1 some A2
def B49(h:b.length=1):H8 (niF b) nmL 0=none:=HY fun a f=>TO fun e=>by
 have k:∀ a ∈ nmL,a.length≠1:=E3;exact k a f (by rw[e,h])
def B1a :H8 (niF ([85,43]++b)) nmL 0=none:=HY fun a f=>TO fun e=>by
 have k:∀ a ∈ nmL,a.getD 1 0≠43:=E3;exact k a f (by rw[e];rfl)
def B48:∀ n:Nat,n<26->H8 (niF (nmL.getD n [])) nmL 0=some (n:Int):=by
 have k:((List.range 26).all fun n=>decide (H8 (niF (nmL.getD n [])) nmL 0=some (n:Int)))=true:=C9;exact fun n e=>G5 (D5.1 k n (T7.2 e))
def B0a(h:cR c):tI (j7 c)=c/\kX (j7 c)=c:=by
 unfold cR at h;by_cases h1:1114113<=c
 .rw[YC h1]
  have:=B48 (c-1114113).toNat A2;rw[B2q this,B2r this];omega
 .by_cases l:c=32
  .rw[YD l,l];decide
  .by_cases h3:c<=126
   .rw[YE h1 l h3];have k:=B49 (b:=[UInt8.ofNat c.toNat]) rfl;have e:(((([UInt8.ofNat c.toNat]:B0).getD 0 0)).toNat:Int)=c:=by
     show((UInt8.ofNat c.toNat).toNat:Int)=c;rw[UInt8.toNat_ofNat',X5 A2];omega
    have f:¬[UInt8.ofNat c.toNat]=([83,112,97,99,101]:B0):=fun e=>by have e:=E1 List.length e;simp at e
    have n:([UInt8.ofNat c.toNat]:B0).length=1:=rfl;refine⟨?_,?_⟩
    .rw[IL k,A6 f,A8 n];exact e
    .rw[XU k,A6 f,A8 n];exact e
   .rw[CT h1 l h3];have m:=A96 c;have o:=HP c;have l2:(([85,43]++o7 c:B0)).length=2+(o7 c).length:=by rw[B7];rfl
    have f:¬([85,43]++o7 c:B0)=[83,112,97,99,101]:=fun e=>by cases e
    refine⟨?_,?_⟩
    .rw[IL B1a,A6 f,A6 A2,A6 fun k=>k.elim A2 fun k=>k.elim A2 fun k=>k rfl];show(hR (o7 c) 0).getD (-1)=c;rw[B2G A2 A2];rfl
    .rw[XU B1a,A6 f,A6 A2,A8 ⟨rfl,A2⟩];show puB (o7 c)=c;rw[A1H (fun e=>by rw[e]at m;exact absurd m E3),B2H A2 A2];rfl
def UD(h:kyP x):x=(1,x.2.1,x.2.2.1,0,0,0,0,[])/\0<=x.2.2.1/\x.2.2.1<=7:=by
 obtain⟨k,c,m,w,b,r,cl,t⟩:=x;obtain⟨h1,e⟩:=h;have h1:k=1:=h1;have e:Y3 k c m w b r cl t:=e;unfold Y3 at e;rcases e with e|e|e|e
 .obtain⟨_,rfl,rfl,rfl,rfl,rfl,f⟩:=e;subst h1;refine⟨rfl,?_⟩;show 0<=m/\m<=7;unfold aM at f;omega
 .omega
 .omega
 .omega
def RF(h:kyP x):cA (N2 x)=x/\dX (N2 x)=x:=by
 obtain⟨e,h0,p⟩:=UD h;have f:=wA h;have n:=B5r f;have l:=B0a f;have m:N2 x=mdP (x.2.2.1 / 4%2*4) 67++(mdP (x.2.2.1 / 2%2*2) 77++(mdP (x.2.2.1 / 1%2*1) 83++j7 x.2.1)):=rfl;have o:=B4O (b:=j7 x.2.1) (x:=x.2.2.1 / 4%2*4) (y:=x.2.2.1 / 2%2*2) (z:=x.2.2.1 / 1%2*1) A2 A2 A2 n;unfold cA dX;rw[m,o,l.1,l.2,show x.2.2.1 / 4%2*4+x.2.2.1 / 2%2*2+x.2.2.1 / 1%2*1=x.2.2.1 by omega];exact⟨e.symm,e.symm⟩
def AF(s:B0):kpO s=X1 s/\kpE s=aO s:=by
 by_cases h:kyP (cA s)/\N2 (cA s)=s
 .have e:dX s=cA s:=by
   have:=(RF h.1).2
   rwa[h.2]at this
  unfold kpO kpE X1 aO;rw[e,A8 h,A8 h];exact⟨rfl,rfl⟩
 .have f:¬(kyP (dX s)/\N2 (dX s)=s):=fun k=>h (by
   have:=(RF k.1).1;rw[k.2]at this;rw[this];exact k)
  unfold kpO kpE X1 aO;rw[A6 h,A6 f,A6 h,A6 f];exact⟨rfl,rfl⟩
def A7V(h:kyP x):X1 (N2 x)=x/\aO (N2 x)=0:=by
 have e:=(RF h).1;unfold X1 aO;rw[e,A8 ⟨h,rfl⟩,A8 ⟨h,rfl⟩];exact⟨rfl,rfl⟩
def B1u(s:B0):aO s=0∨aO s=6:=by
 unfold aO;split
 .exact .inl rfl
 .exact .inr rfl
def nmB(l:B0):Prop:=∀ b ∈ l,33<=b.toNat/\b.toNat<=126
def xS{u:B0}(h:nmB u)(k:nmB v):nmB (u++v):=fun b e=>(B6.1 e).elim (h b) (k b)
def A1f{l:B0}(h:(l.all fun b=>decide (33<=b.toNat/\b.toNat<=126))=true):nmB l:=fun b e=>G5 (D5.1 h b e)
def B5X(h0:0<=d)(h1:d<16):33<=(hU d).toNat/\(hU d).toNat<=126:=by
 have k:∀ n:Nat,n<16->33<=(hU n).toNat/\(hU n).toNat<=126:=E3
 have:=k d.toNat A2
 rwa[show((d.toNat:Nat):Int)=d by omega]at this
def B5W{l:B0}(h0:0<=d)(h1:d<16)(h:nmB l):nmB (hU d::l):=fun b e=>by
 rcases B3.1 e with rfl|e
 .exact B5X h0 h1
 .exact h b e
def A7D:nmB []:=fun b e=>by cases e
def B2I(h0:0<=c)(h1:c<16777216):nmB (o7 c):=by
 unfold o7
 (repeat' split)<;>(repeat refine B5W A2 A2 ?_)<;>exact A7D
def B5t(h:cR c):nmB (j7 c):=by
 unfold cR at h;by_cases h1:1114113<=c
 .rw[YC h1];have k:∀ n:Nat,n<26->((nmL.getD n []).all fun b=>decide (33<=b.toNat/\b.toNat<=126))=true:=E3;exact A1f (k _ A2)
 .by_cases e:c=32
  .rw[YD e];exact A1f E3
  .by_cases h3:c<=126
   .rw[YE h1 e h3];intro b f;obtain rfl:=K9.1 f;rw[UInt8.toNat_ofNat',X5 A2];omega
   .rw[CT h1 e h3];exact xS (A1f E3) (B2I A2 A2)
def A1r{n:Int}(h:33<=a.toNat/\a.toNat<=126):nmB (mdP n a):=by
 unfold mdP;split
 .exact A7D
 .intro b e;rcases B3.1 e with rfl|e
  .exact h
  .obtain rfl:=K9.1 e;decide
def GX(x:Xt):N2 x=mdP (x.2.2.1 / 4%2*4) 67++(mdP (x.2.2.1 / 2%2*2) 77++(mdP (x.2.2.1 / 1%2*1) 83++j7 x.2.1)):=rfl
def QF(h:kyP x):nmB (N2 x):=by
 rw[GX];exact xS (A1r E3) (xS (A1r E3) (xS (A1r E3) (B5t (wA h))))
def dsh(l:B0):Prop:=∃ a r,l=a::r/\(a≠45∨r=[])
def A3D{n:Int}{l:B0}(h:dsh l)(e:a≠45):dsh (mdP n a++l):=by
 unfold mdP;split
 .exact h
 .exact⟨a,45::l,rfl,.inl e⟩
def B5s(h:cR c):dsh (j7 c):=by
 unfold cR at h;by_cases h1:1114113<=c
 .rw[YC h1];have k:∀ n:Nat,n<26->(nmL.getD n [])≠[]/\(nmL.getD n []).getD 0 0≠45:=E3
  have:=k (c-1114113).toNat A2
  match f:nmL.getD (c-1114113).toNat [],this with
  | [],k=>exact absurd rfl k.1
  | a::r,k=>exact⟨a,r,rfl,.inl k.2⟩
 .by_cases e:c=32
  .rw[YD e];exact⟨_,_,rfl,.inl E3⟩
  .by_cases h3:c<=126
   .rw[YE h1 e h3];exact⟨_,_,rfl,.inr rfl⟩
   .rw[CT h1 e h3];exact⟨85,_,rfl,.inl E3⟩
def A9l(h:kyP x):dsh (N2 x):=by
 rw[GX];exact A3D (A3D (A3D (B5s (wA h)) E3) E3) E3
def iP(x:Xt):(N2 x).length<=14:=by
 rw[GX];have k:∀ n a,(mdP n a).length<=2:=fun n a=>by
  unfold mdP;split
  .decide
  .exact A7 _
 have l:=k (x.2.2.1 / 4%2*4) 67;have m:=k (x.2.2.1 / 2%2*2) 77;have e:=k (x.2.2.1 / 1%2*1) 83;have f:=RI x.2.1;simp only[B7];omega
def lnF(g:Gt):B0:=(if gR g=true then[45,114,32]else[])++(N2 (gK g)++32::gC g)
def prB(g:Gt):B0:=[98,105,110,100,32]++lnF g
def prP(x:Xt):B0:=[112,114,101,102,105,120,32]++N2 x
def tW(x:Xt)(l:List Gt):B0:=S6 10 (prP x::l.map prB)
def tX(x:Xt)(l:List Gt):B0:=if kmP x l then tW x l else[]
def A1M{l:List Gt}(h:kmP x l):tX x l=tW x l:=A8 h
def A9Z{l:List Gt}(h:¬kmP x l):tX x l=[]:=A6 h
def TY(h:gP g):(lnF g).length<=118:=by
 have h1:=iP (gK g);have e:=h.2.2.1;unfold lnF;rw[B7,B7,C8];split
 .show 3+_<=_;omega
 .show 0+_<=_;omega
def xW(c:UInt8)(p:B0)(l:List B0):S6 c (p::l)=p++c::S6 c l:=by simp[S6]
def A4p(g:Gt):(prB g).length=5+(lnF g).length:=by
 unfold prB;rw[B7];rfl
def A4o(x:Xt):(prP x).length=7+(N2 x).length:=by
 unfold prP;rw[B7];rfl
def A2M:∀ {l:List Gt},(∀ g ∈ l,gP g)->(S6 10 (l.map prB)).length<=124*l.length
 | [],_=>by decide
 | g::l,h=>by
   have h1:=TY (h g (B4 ..));have e:=A2M fun x hx=>h x (C4 _ hx)
   rw[C5,xW,B7,C8,C8,A4p];omega
def TF{l:List Gt}(h:kmP x l):(tW x l).length<=8000:=by
 have h1:=A2M h.2.2.1;have e:=h.2.1;have h3:=iP x;unfold tW;rw[xW,B7,C8,A4o];omega
def Q6(s:B0):B0×B0×Bool:=match fx 32 s with
 | some j=>(s.take j.toNat,s.drop (j+1).toNat,true)
 | none=>(s,[],false)
def RC{s:B0}(h:fx 32 s=some j):Q6 s=(s.take j.toNat,s.drop (j+1).toNat,true):=by unfold Q6;rw[h]
def A3L{s:B0}(h:fx 32 s=none):Q6 s=(s,[],false):=by unfold Q6;rw[h]
def bnR(s:B0):Bool:=decide (s.take 3=[45,114,32]/\3<s.length)
def bnA(s:B0):B0:=if bnR s=true then s.drop 3 else s
def mkG(x:Xt)(c:B0)(r:Bool):Gt:=(x.1,x.2.1,x.2.2.1,x.2.2.2.1,x.2.2.2.2.1,x.2.2.2.2.2.1,x.2.2.2.2.2.2.1,x.2.2.2.2.2.2.2,c,r)
def bnG(s:B0):Gt:=mkG (X1 (Q6 (bnA s)).1) (Q6 (bnA s)).2.1 (bnR s)
def bnP(s:B0):Prop:=(Q6 (bnA s)).2.2=true/\aO (Q6 (bnA s)).1=0/\(Q6 (bnA s)).2.1≠[]
instance(s:B0):Decidable (bnP s):=by unfold bnP;infer_instance
def lnP(s:B0):Prop:=s.take 5=[98,105,110,100,32]/\bnP (s.drop 5)
instance(s:B0):Decidable (lnP s):=by unfold lnP;infer_instance
def mI(s:B0):Bool:=!decide (lnP s)
def lnG(s:B0):Gt:=bnG (s.drop 5)
def QN{s:B0}(h:lnP s):mI s=false:=by unfold mI;rw[H5 h];rfl
def HD{s:B0}(h:¬lnP s):mI s=true:=by unfold mI;rw[D4 h];rfl
def rok:List B0->Bool
 | []=>false
 | [l]=>decide (l=[])
 | l::m::r=>!mI l && rok (m::r)
def rgs(l:List B0):List Gt:=l.dropLast.map lnG
def hdP(s:B0):Prop:=s.take 7=[112,114,101,102,105,120,32]/\aO (s.drop 7)=0
instance(s:B0):Decidable (hdP s):=by unfold hdP;infer_instance
def psP(l:List B0):Prop:=hdP (l.headD [])/\rok l.tail=true
instance(l:List B0):Decidable (psP l):=by unfold psP;infer_instance
def psX(s:B0):Xt:=X1 (((sp 10 s).headD []).drop 7)
def psL(s:B0):Option (List Gt):=o9 none (some (rgs (sp 10 s).tail))
def prE(s:B0):Int:=if 16384<s.length then 3 else if ¬psP (sp 10 s)then 6 else oS (psX s) (el (psL s))
def prX(s:B0):Xt:=if prE s=0 then psX s else X0
def prL(s:B0):Option (List Gt):=if prE s=0 then psL s else none
def A9b{s:B0}(h:16384<s.length):prE s=3:=A8 h
def PU{s:B0}(h:¬16384<s.length)(e:¬psP (sp 10 s)):prE s=6:=by unfold prE;rw[A6 h,A8 e]
def A4n{s:B0}(h:¬16384<s.length)(e:psP (sp 10 s)):prE s=oS (psX s) (el (psL s)):=by unfold prE;rw[A6 h,A6 fun k=>k e]
def A9a{s:B0}(h:prE s≠0):prX s=X0/\prL s=none:=⟨A6 h,A6 h⟩
def PT{s:B0}(h:prE s=0):prX s=psX s/\prL s=psL s:=⟨A8 h,A8 h⟩
def A0n{l:B0}(h:r≠[]):rok (l::r)=(!mI l && rok r):=by
 cases r with
 | nil=>exact absurd rfl h
 | cons m r=>rfl
def B1D{l:B0}(h:r≠[]):rgs (l::r)=lnG l::rgs r:=by
 cases r with
 | nil=>exact absurd rfl h
 | cons m r=>rfl
def KM:∀ {l:List B0},rok l=true↔l.getLast? = some []/\l.dropLast.any mI=false
 | []=>by simp[rok]
 | [l]=>by simp[rok]
 | l::m::r=>by
   rw[A0n (by simp),G9,KM (l:=m::r),List.dropLast_cons₂,Q8,List.getLast?_cons_cons];cases mI l<;>simp
def YP(w v:B0):(w++32::v).take (w.length+1)=w++[32]/\(w++32::v).drop (w.length+1)=v:=by
 have e:w++32::v=(w++[32])++v:=by simp
 have f:(w++[32]).length=w.length+1:=by simp
 rw[e];exact⟨t7 f,lC f⟩
def B0p{l w:B0}(h:fx 32 l=some k)(e:l.take k.toNat=w):l.take (w.length+1)=w++[32]/\l.drop (w.length+1)=l.drop (k+1).toNat:=by
 obtain⟨u,v,h1,_,_,f,m⟩:=QW h;rw[f]at e;rw[m];subst e;rw[h1];exact YP u v
def A56{l w:B0}(hw:∀ x ∈ w,x≠32)(h:l.take (w.length+1)=w++[32]):fx 32 l=some w.length/\l.take w.length=w:=by
 have e:l=w++32::l.drop (w.length+1):=by
  have:=Z4 (w.length+1) l;rw[h]at this;rw[<- this];simp
 rw[e];exact⟨A2q hw,t7 rfl⟩
def B0r{l w:B0}(hw:∀ x ∈ w,x≠32)(h:fx 32 l=none):¬l.take (w.length+1)=w++[32]:=fun e=>by
 rw[(A56 hw e).1]at h;cases h
def B0q{l w:B0}(hw:∀ x ∈ w,x≠32)(h:fx 32 l=some k)(m:l.take k.toNat≠w):¬l.take (w.length+1)=w++[32]:=fun e=>by
 obtain⟨f,n⟩:=A56 hw e;rw[h]at f;cases f;exact m (by simpa using n)
def B5I{l:B0}(h:fx 32 l=none):¬lnP l:=fun k=>B0r (w:=[98,105,110,100]) E3 h k.1
def B5H{l:B0}(h:fx 32 l=some k)(e:l.take k.toNat≠[98,105,110,100]):¬lnP l:=fun q=>B0q (w:=[98,105,110,100]) E3 h e q.1
def B1i{l:B0}(h:fx 32 l=some k)(m:l.take k.toNat=[98,105,110,100]):(lnP l↔bnP (l.drop (k+1).toNat))/\lnG l=bnG (l.drop (k+1).toNat):=by
 obtain⟨f,e⟩:=B0p h m;have e:l.drop 5=l.drop (k+1).toNat:=e;unfold lnG lnP;rw[e];exact⟨⟨fun q=>q.2,fun q=>⟨f,q⟩⟩,rfl⟩
def B5S{l:B0}(h:fx 32 l=none):¬hdP l:=fun k=>B0r (w:=[112,114,101,102,105,120]) E3 h k.1
def B5R{l:B0}(h:fx 32 l=some k)(e:l.take k.toNat≠[112,114,101,102,105,120]):¬hdP l:=fun q=>B0q (w:=[112,114,101,102,105,120]) E3 h e q.1
def B2J{l:B0}(h:fx 32 l=some k)(m:l.take k.toNat=[112,114,101,102,105,120]):(hdP l↔aO (l.drop (k+1).toNat)=0)/\l.drop 7=l.drop (k+1).toNat:=by
 obtain⟨f,e⟩:=B0p h m;have e:l.drop 7=l.drop (k+1).toNat:=e;unfold hdP;rw[e];exact⟨⟨fun q=>q.2,fun q=>⟨f,q⟩⟩,rfl⟩
def B1h(h:gP g):bnR (lnF g)=gR g/\bnA (lnF g)=N2 (gK g)++32::gC g:=by
 have e:bnR (lnF g)=gR g:=by
  unfold bnR lnF;cases hr:gR g with
  | true =>
    rw[A8 rfl];refine H5 ⟨rfl,?_⟩;simp only[B7,C8,J3];omega
  | false =>
    rw[A6 E3,G7];refine D4 fun k=>?_
    obtain⟨a,r,e,h1⟩:=A9l h.1;have k:=k.1;rw[e]at k;rcases h1 with h1|h1
    .injection k with k _;exact h1 k
    .subst h1;injection k with _ k
     injection k with k _
     exact absurd k E3
 refine⟨e,?_⟩;unfold bnA;rw[e];unfold lnF;cases hr:gR g with
 | true=>rw[A8 rfl,A8 rfl];rfl
 | false=>rw[A6 E3,A6 E3];rfl
def B0n{l:B0}{c:UInt8}(h:nmB l)(f:c.toNat<33):∀ x ∈ l,x≠c:=fun x hx e=>by
 have:=(h x hx).1;rw[e]at this;omega
def TX(h:gP g):lnP (prB g)/\lnG (prB g)=g:=by
 obtain⟨h1,l⟩:=B1h h;have f:=A7V h.1;have m:Q6 (bnA (lnF g))=(N2 (gK g),gC g,true):=by
  have:=A2q (c:=32) (u:=N2 (gK g)) (v:=gC g) (B0n (QF h.1) E3);rw[l,RC this];have e:=YP (N2 (gK g)) (gC g);have n:(((N2 (gK g)).length:Int)+1).toNat=(N2 (gK g)).length+1:=A2;rw[n,e.2];have o:(((N2 (gK g)).length:Nat):Int).toNat=(N2 (gK g)).length:=A2;rw[o,t7 rfl]
 have p:(prB g).drop 5=lnF g:=rfl;unfold lnP lnG bnP bnG;rw[p,m,h1];refine⟨⟨rfl,rfl,f.2,h.2.1⟩,?_⟩;show mkG (X1 (N2 (gK g))) (gC g) (gR g)=g;rw[f.1];rfl
def B0b{s:B0}(h:tJ s):∀ x ∈ s,x≠10:=fun x hx e=>by
 have:=h.2.2;have k:s.any mW=true:=O2.2 ⟨x,hx,by rw[e];decide⟩;rw[this]at k;cases k
def A9d(h:gP g):∀ x ∈ prB g,x≠10:=by
 have h1:=B0n (c:=10) (QF h.1) E3;have e:=B0b h.2;intro x hx;have f:∀ x ∈ ([98,105,110,100,32]:B0),x≠10:=E3;have l:∀ x ∈ ([45,114,32]:B0),x≠10:=E3;unfold prB lnF at hx;rcases B6.1 hx with hx|hx
 .exact f x hx
 .rcases B6.1 hx with hx|hx
  .split at hx
   .exact l x hx
   .cases hx
  .rcases B6.1 hx with hx|hx
   .exact h1 x hx
   .rcases B3.1 hx with rfl|hx
    .decide
    .exact e x hx
def A9c(h:kyP x):∀ b ∈ prP x,b≠10:=by
 have h1:=B0n (c:=10) (QF h) E3;intro b e;have f:∀ x ∈ ([112,114,101,102,105,120,32]:B0),x≠10:=E3;unfold prP at e;rcases B6.1 e with e|e
 .exact f b e
 .exact h1 b e
def A9F{l:List Gt}(h:kmP x l):sp 10 (tW x l)=prP x::(l.map prB++[[]]):=by
 have:=yT (c:=10) (P:=prP x::l.map prB) (t:=[]) (fun p hp=>by
  rcases B3.1 hp with rfl|hp
  .exact A9c h.1
  .obtain⟨g,e,rfl⟩:=I6.1 hp;exact A9d (h.2.2.1 g e)) (fun x hx=>by cases hx)
 rw[N5]at this;exact this
def A4c{l:List Gt}(h:∀ g ∈ l,gP g):rok (l.map prB++[[]])=true/\rgs (l.map prB++[[]])=l:=by
 refine⟨KM.2 ⟨by simp,?_⟩,?_⟩
 .rw[List.dropLast_concat];refine Z9.2 fun p hp=>?_
  obtain⟨g,e,rfl⟩:=I6.1 hp;rw[QN (TX (h g e)).1];decide
 .unfold rgs;rw[List.dropLast_concat,eO];have:∀ l:List Gt,(∀ g ∈ l,gP g)->l.map (lnG ∘ prB)=l:=by
   intro l;induction l with
   | nil=>intro _;rfl
   | cons g l f =>
     intro h;rw[C5,f fun x hx=>h x (C4 _ hx)];show lnG (prB g)::l=_;rw[(TX (h g (B4 ..))).2]
  exact this l h
def A1L{l:List Gt}(h:kmP x l):prE (tW x l)=0/\prX (tW x l)=x/\el (prL (tW x l))=l:=by
 have e:=A9F h;have p:=TF h;obtain⟨r1,o⟩:=A4c h.2.2.1;have m:=A7V h.1;have hp:psP (sp 10 (tW x l)):=by
  rw[e];exact⟨⟨rfl,m.2⟩,r1⟩
 have f:psX (tW x l)=x:=by
  unfold psX;rw[e];exact m.1
 have n:el (psL (tW x l))=l:=by
  unfold psL;rw[e,bH];exact o
 have he:prE (tW x l)=0:=by rw[A4n A2 hp,f,n,AX h]
 refine⟨he,?_,?_⟩
 .rw[(PT he).1,f]
 .rw[(PT he).2,n]
open Go Go.Sx Go.Proofs.Tryz
def l2s{a:B0}(h:a=b)(k:c=d):[U.str a,U.int .i64 c]=[U.str b,U.int .i64 d]:=by subst h k;rfl
def B5N{l:List Gt}(h0:0<=i)(h1:i<(l.length:Int)):S6 10 ((l.drop i.toNat).map prB)=(prB (l.getD i.toNat default)++[10])++S6 10 ((l.drop (i+1).toNat).map prB):=by
 rw[R5 l h0 h1,C5,xW];simp
def B5O{l:List Gt}(h1:(l.length:Int)<=i):S6 10 ((l.drop i.toNat).map prB)=[]:=by
 rw[bJ l h1];rfl
def A9e(h:gP g):(prB g++[10]).length<=124:=by
 have:=TY h;unfold prB;rw[B7,B7];show 5+_+1<=_;omega
def A7y(u:B0):iB (bI u)=u:=by
 unfold iB bI;rw[eO];induction u with
 | nil=>rfl
 | cons a u e=>rw[C5,e];simp
def A8r(u:B0):∀ y ∈ bI u,0<=y/\y<256:=fun y e=>by
 unfold bI at e;obtain⟨b,_,rfl⟩:=I6.1 e;exact FX b
noncomputable def B0h:O9:=⟨_,fun e=>(.cons (KO e) (.cons (A0o e) .nil))⟩
def jK:List U->Option (Nat×List U)
 | [.str s,.int .i64 i,.int .i64 p1,.int .i64 p2,.int .i64 p3,.int .i64 p4,.int .i64 p5,.int .i64 p6,.int .i64 p7,.str p8,u_l]=>(P4 rG u_l).bind fun l=>if 0<=i/\i<=((el l).length:Int)/\((el l).length:Int)<=64/\(s.length:Int)+124*(((el l).length:Int)-i)<=1000000/\(∀ g ∈ el l,gP g)then some (0,[.str (s++S6 10 (((el l).drop i.toNat).map prB))])else none
 | _=>none
def rN(s:B0)(i:Int)(q:Int)(o:Int)(e:Int)(n:Int)(u:Int)(p:Int)(f:Int)(p8:B0)(l:(Option (List (Int×Int×Int×Int×Int×Int×Int×B0×B0×Bool))))(m:0<=i/\i<=((el l).length:Int)/\((el l).length:Int)<=64/\(s.length:Int)+124*(((el l).length:Int)-i)<=1000000/\(∀ g ∈ el l,gP g)):jK [.str s,.int .i64 i,.int .i64 q,.int .i64 o,.int .i64 e,.int .i64 n,.int .i64 u,.int .i64 p,.int .i64 f,.str p8,E8 rG l]=some (0,[.str (s++S6 10 (((el l).drop i.toNat).map prB))]):=by
 simp only[jK,I0,F1];exact A8 m
def B58{s:B0}(h:gR g=true):(((((s++[98,105,110,100,32])++[45,114,32])++N2 (gK g))++[32])++gC g)++[10]=s++(prB g++[10]):=by
 unfold prB lnF;rw[h,A8 rfl];simp
def B59{s:B0}(h:gR g=false):((((s++[98,105,110,100,32])++N2 (gK g))++[32])++gC g)++[10]=s++(prB g++[10]):=by
 unfold prB lnF;rw[h,A6 E3];simp
def A0l:R1:=⟨[(1,.pointer (some ⟨17,0,none⟩)),(4,h 0 9),(5,h 1 3)],[(17,.cells 35 [h 2 3,h 3 3,h 4 3,h 5 3,h 6 3,h 7 3,h 8 3,h 9 9,dat 18 10 20]),(18,.frz)],11,[⟨.exit 0,[(4,h 0 9)],[],1⟩]⟩
noncomputable def PN:Code:=(f22.body).getD .skip
noncomputable def A0h:Code:=match G6 [true,true,true,false,true,false] PN with|some (.loop x)=>x|_=>.skip
def A0k:f22.body=some PN:=rfl
def A0j:G6 [true,true,true,false,true,false] PN=some (.loop A0h):=C9
def A0i:Tr:=aD [h 10 20]<|Z6 1 11 12 (eF 1 10 13 (.lt 3 (.get 10 0) [h 10 20,h3 1]<|.lt 3 (.get 10 1) [h 10 20,h3 1]<|.lt 3 (.get 10 2) [h 10 20,h3 1]<|.lt 3 (.get 10 3) [h 10 20,h3 1]<|.lt 3 (.get 10 4) [h 10 20,h3 1]<|.lt 3 (.get 10 5) [h 10 20,h3 1]<|.lt 3 (.get 10 6) [h 10 20,h3 1]<|.lt 9 (.get 10 7) [h 10 20,h3 1]<|.lt 9 (.get 10 8) [h 10 20,h3 1]<|.lt 8 (.get 10 9) [h 10 20,h3 1]<|aC [h 0 9,.string ⟨⟨[98,105,110,100,32]⟩⟩]<|.br 23 (aC [h 24 9,.string ⟨⟨[45,114,32]⟩⟩]<|.fn oV [h3 14,h3 15,h3 16,h3 17,h3 18,h3 19,h3 20,h 21 9] 1<|aC [h 25 9,h 26 9]<|aC [h 27 9,.string ⟨⟨[32]⟩⟩]<|aC [h 28 9,h 22 9]<|aC [h 29 9,.string ⟨⟨[10]⟩⟩]<|aA [h3 1,jI 1]<|.ret [jI (-1),h 30 9,h3 31,h3 2,h3 3,h3 4,h3 5,h3 6,h3 7,h3 8,h 9 9,h 10 20]) (.fn oV [h3 14,h3 15,h3 16,h3 17,h3 18,h3 19,h3 20,h 21 9] 1<|aC [h 24 9,h 25 9]<|aC [h 26 9,.string ⟨⟨[32]⟩⟩]<|aC [h 27 9,h 22 9]<|aC [h 28 9,.string ⟨⟨[10]⟩⟩]<|aA [h3 1,jI 1]<|.ret [jI (-1),h 29 9,h3 30,h3 2,h3 3,h3 4,h3 5,h3 6,h3 7,h3 8,h 9 9,h 10 20]))) (.ret [jI 0,h 0 9])
def PM:List U->Nat
 | [.str s,.int .i64 i,.int .i64 p1,.int .i64 p2,.int .i64 p3,.int .i64 p4,.int .i64 p5,.int .i64 p6,.int .i64 p7,.str p8,u_l]=>(match P4 rG u_l with|some l=>(((el l).length:Int)-i).toNat|none=>0)
 | _=>0
def SK(s:B0)(i:Int)(p:Int)(n:Int)(e:Int)(m:Int)(q:Int)(o:Int)(f:Int)(p8:B0)(l:(Option (List (Int×Int×Int×Int×Int×Int×Int×B0×B0×Bool)))):PM [.str s,.int .i64 i,.int .i64 p,.int .i64 n,.int .i64 e,.int .i64 m,.int .i64 q,.int .i64 o,.int .i64 f,.str p8,E8 rG l]=(((el l).length:Int)-i).toNat:=by
 simp only[PM,I0]
def A9R{G}(C:K4 G):∀ (E:Nat->U) (base:Nat),@Q1 ⟨E,G⟩ prog base gl f22.ntmps A0h (M1 prog gl n0 19 A0l jK):=by
 refine R4 (dep:=60) (f:=22) (n0:=n0) (nB:=19) (H0:=H0) PM A0i (cxg (B0h.2 C) .nil) C func22 A0k A0j C9 C9 C9 ?_;intro us d outs n;have J:=n;unfold jK at n;split at n
 .skip;rename_i s i F A q w p D B p8 M;have H:=C3.1 n;clear n;obtain⟨l,m,n⟩:=H;replace m:=L1 m;subst m;split at n
  .rename_i o;clear n J;have I:i<((el l).length:Int)->gP ((el l).getD i.toNat default):=fun h=>o.2.2.2.2 _ (fP o.1 A2)
   have Q:=iP (gK ((el l).getD i.toNat default));refine⟨rfl,?_⟩;unfold A0i;refine w0 (.cons 10 _ (.cons 9 _ (.cons 8 _ (.cons 7 _ (.cons 6 _ (.cons 5 _ (.cons 4 _ (.cons 3 _ (.cons 2 _ (.cons 1 _ (.cons 0 _ (.nil)))))))))))) ?_;repeat (first|refine w1 (.bin .add) (e:=AW _ _ (by first|omega|(have z2:=(I ‹_›).2.2.1;unfold gC at z2;(try (generalize L:N2 _=N;have P:N.length<=14:=L▸iP _));simp only[B7,C8,J3];omega))) (k':=?_)|refine bW ?_|refine W4 ?_|refine w4 (fun g=>?_) fun g=>?_|refine w31 oV (e:=GJ _ _ _ _ _ _ _ _ (wA (I ‹_›).1)) (k':=?_)|(refine w7 [.int .i64 _,.str _,.int .i64 _,.int .i64 _,.int .i64 _,.int .i64 _,.int .i64 _,.int .i64 _,.int .i64 _,.int .i64 _,.str _,E8 rG _] ?_;rotate_left)|refine kL ?_|refine aK ?_|refine dV ?_|refine w1 (.get 10 0) (u:=.int .i64 _) (e:=E5 rfl A2 A2 rfl) (k':=?_)|refine w1 (.get 10 1) (u:=.int .i64 _) (e:=E5 rfl A2 A2 rfl) (k':=?_)|refine w1 (.get 10 2) (u:=.int .i64 _) (e:=E5 rfl A2 A2 rfl) (k':=?_)|refine w1 (.get 10 3) (u:=.int .i64 _) (e:=E5 rfl A2 A2 rfl) (k':=?_)|refine w1 (.get 10 4) (u:=.int .i64 _) (e:=E5 rfl A2 A2 rfl) (k':=?_)|refine w1 (.get 10 5) (u:=.int .i64 _) (e:=E5 rfl A2 A2 rfl) (k':=?_)|refine w1 (.get 10 6) (u:=.int .i64 _) (e:=E5 rfl A2 A2 rfl) (k':=?_)|refine w1 (.get 10 7) (u:=.str _) (e:=E5 rfl A2 A2 rfl) (k':=?_)|refine w1 (.get 10 8) (u:=.str _) (e:=E5 rfl A2 A2 rfl) (k':=?_)|refine w1 (.get 10 9) (u:=.bool _) (e:=E5 rfl A2 A2 rfl) (k':=?_)|refine w4B (fun g=>?_) fun g=>?_|(refine w8 ?_;first|omega)|(refine w7 [.int .i64 _,.str _] ?_;rotate_left))
   all_goals first
    | refine M2 ?_ ?_
      have hx:i<((el l).length:Int)->∀ X,X=s++(prB ((el l).getD i.toNat default)++[10])->jK [.str X,.int .i64 (i+1),.int .i64 F,.int .i64 A,.int .i64 q,.int .i64 w,.int .i64 p,.int .i64 D,.int .i64 B,.str p8,E8 rG l]=jK [.str s,.int .i64 i,.int .i64 F,.int .i64 A,.int .i64 q,.int .i64 w,.int .i64 p,.int .i64 D,.int .i64 B,.str p8,E8 rG l]:=fun h X K=>by
       have O:=A9e (I h);rw[rN X (i+1) F A q w p D B p8 l ⟨A2,A2,o.2.2.1,by rw[K,B7];omega,o.2.2.2.2⟩,rN s i F A q w p D B p8 l o,K,B5N (l:=el l) (i:=i) o.1 A2,M0]
      .refine hx ‹_› _ ?_;first
       | exact B58 (g:=((el l).getD i.toNat default)) ‹_›
       | exact B59 (g:=((el l).getD i.toNat default)) ‹_›
      .rw[SK,SK];omega
    | refine H7 (d:=0) ?_
      rw[rN s i F A q w p D B p8 l o,B5O (l:=el l) (i:=i) A2,N5]
  .cases n
 .cases n
noncomputable def B0k:List LpE:=(22,([true,true,true,false,true,false],M1 prog gl n0 19 A0l jK))::[]
def YJ{G}(e:K4 G):W5 prog G gl B0k:=.cons func22 A0k A0j (A9R e) .nil
def B1s{l:List Gt}(h:¬¬kmP x l):kmP x l:=B5.1 h
def B4j{l:Option (List Gt)}(h:kmP x (el l)):(0:Int)<=0/\0<=((el l).length:Int)/\((el l).length:Int)<=64/\((([112,114,101,102,105,120,32]++N2 x++[10]:B0)).length:Int)+124*(((el l).length:Int)-0)<=1000000/\(∀ g ∈ el l,gP g):=by
 have f:=h.2.1;have e:=iP x;refine⟨E3,A2,A2,?_,h.2.2.1⟩;simp only[B7,C8,J3];omega
def B4h{l:Option (List Gt)}(h:kmP x (el l)):([112,114,101,102,105,120,32]++N2 x++[10])++S6 10 (((el l).drop (0:Int).toNat).map prB)=tX x (el l):=by
 rw[A1M h];unfold tW;rw[xW];unfold prP;simp
noncomputable def B3N:O9:=⟨_,fun e=>(.cons (KO e) (.cons (A0o e) .nil))⟩
def DO:List U->Option (Nat×List U)
 | [.int .i64 p1,.int .i64 p2,.int .i64 p3,.int .i64 p4,.int .i64 p5,.int .i64 p6,.int .i64 p7,.str p8,u_l]=>(P4 rG u_l).bind fun l=>if -9223372036854775808<=p3/\p3<=9223372036854775807/\(p8.length:Int)<=140737488351232/\((el l).length:Int)<=140737488351232/\(∀ g ∈ el l,gOk g)then some (0,[.str (tX (p1,p2,p3,p4,p5,p6,p7,p8) (el l)),.int .i64 (oS (p1,p2,p3,p4,p5,p6,p7,p8) (el l))])else none
 | _=>none
def A4b(p:Int)(n:Int)(e:Int)(m:Int)(q:Int)(o:Int)(f:Int)(p8:B0)(l:(Option (List (Int×Int×Int×Int×Int×Int×Int×B0×B0×Bool))))(s : -9223372036854775808<=e/\e<=9223372036854775807/\(p8.length:Int)<=140737488351232/\((el l).length:Int)<=140737488351232/\(∀ g ∈ el l,gOk g)):DO [.int .i64 p,.int .i64 n,.int .i64 e,.int .i64 m,.int .i64 q,.int .i64 o,.int .i64 f,.str p8,E8 rG l]=some (0,[.str (tX (p,n,e,m,q,o,f,p8) (el l)),.int .i64 (oS (p,n,e,m,q,o,f,p8) (el l))]):=by
 simp only[DO,I0,F1];exact A8 s
def A6d:Tr:=.fn vR [h3 0,h3 1,h3 2,h3 3,h3 4,h3 5,h3 6,h 7 9,h 8 20] 1<|L2 9 10 (.ret [.string ⟨⟨[]⟩⟩,jI 490]) (.fn oV [h3 0,h3 1,h3 2,h3 3,h3 4,h3 5,h3 6,h 7 9] 1<|aC [.string ⟨⟨[112,114,101,102,105,120,32]⟩⟩,h 11 9]<|aC [h 12 9,.string ⟨⟨[10]⟩⟩]<|.fn jK [h 13 9,jI 0,h3 0,h3 1,h3 2,h3 3,h3 4,h3 5,h3 6,h 7 9,h 8 20] 1<|.ret [h 14 9,jI 0])
def B1B{G}(n:K4 G):L6 prog G 22 [.a [3,3,3,3,3,3,3,9,20]] DO [.s 9,.s 3]:=by
 refine F3 (d:=60) A6d (cxg (B3N.2 n) (YJ n)) n ⟨f22,_,func22,rfl⟩ C9 C9 ?_;intro us outs m;unfold DO at m;split at m
 .skip;rename_i B w q u p A h p8 C;have o:=C3.1 m;clear m;obtain⟨l,f,m⟩:=o;replace f:=L1 f;subst f;split at m
  .rename_i D;cases m;have E:=iP (B,w,q,u,p,A,h,p8);unfold A6d;refine w0 (.cons 8 _ (.cons 7 _ (.cons 6 _ (.cons 5 _ (.cons 4 _ (.cons 3 _ (.cons 2 _ (.cons 1 _ (.cons 0 _ (.nil)))))))))) ?_;repeat (first|refine Z5 ?_|refine lF ?_|refine w4 (fun g=>?_) fun g=>?_|refine w4B (fun g=>?_) fun g=>?_|(refine w7 [.str _,.int .i64 _] ?_;rotate_left)|refine w1 (.bin .add) (e:=AW _ _ (by simp only[B7,C8,J3];omega)) (k':=?_)|refine w31 vR (e:=SU _ _ _ _ _ _ _ _ _ D) (k':=?_)|refine w31 oV (e:=GJ _ _ _ _ _ _ _ _ (wA (x:=(B,w,q,u,p,A,h,p8)) (B1s (x:=(B,w,q,u,p,A,h,p8)) (l:=el l) ‹_›).1)) (k':=?_)|refine w31 jK (e:=rN _ _ _ _ _ _ _ _ _ _ _ (B4j (B5.1 ‹_›))) (k':=?_))
   all_goals
    first
    | (refine l2s (A9Z ‹_›).symm ?_;exact(jV ‹_›).symm)
    | (refine l2s (B4h (B5.1 ‹_›)) ?_;exact(AX (B5.1 ‹_›)).symm)
  .cases m
 .cases m
def NM:List U->Option (Nat×List U)
 | [.str s,.str c]=>if c.length=1 then some (0,[.int .i64 ((Lib.countByte s (c.getD 0 0):Int))])else none
 | _=>none
def A5l(s:B0)(c:B0)(e:c.length=1):NM [.str s,.str c]=some (0,[.int .i64 ((Lib.countByte s (c.getD 0 0):Int))]):=A8 e
def A8g{G}(n:K4 G):L6 prog G 29 [.s 9,.s 9] NM [.s 3]:=by
 intro us outs w vs R l f p hR;unfold NM at f;split at f
 .skip;rename_i s c;split at f
  .rename_i o;cases f;have hv:=V6 (vs2:=[.string ⟨⟨s⟩⟩,.string ⟨⟨c⟩⟩]) l rfl;subst hv;refine gW (vr:=[.int .i64 (Lib.countByte s (c.getD 0 0))]) func29 rfl C9 rfl ?_;obtain⟨x,rfl⟩:∃ x,c=[x]:=by
    match c,o with
    | [x],_=>exact⟨x,rfl⟩
    | [],h=>cases h
    | _::_::_,h=>simp at h
   exact(Tryz.strings_Count_one ⟨⟨s⟩⟩ x w).mono fun e w' ⟨h1,m⟩=>⟨h1,by subst m;exact RowKit.Below.refl _ _⟩
  .cases f
 .cases f
def MK:List U->Option (Nat×List U)
 | [.str s,.str c]=>if c.length=1 then some (0,[.int .i64 (Lib.indexByte s (c.getD 0 0))])else none
 | _=>none
def A5G(s:B0)(c:B0)(e:c.length=1):MK [.str s,.str c]=some (0,[.int .i64 (Lib.indexByte s (c.getD 0 0))]):=A8 e
def B2C{G}(n:K4 G):L6 prog G 65 [.s 9,.s 9] MK [.s 3]:=by
 intro us outs w vs R l f p hR;unfold MK at f;split at f
 .skip;rename_i s c;split at f
  .rename_i o;cases f;have hv:=V6 (vs2:=[.string ⟨⟨s⟩⟩,.string ⟨⟨c⟩⟩]) l rfl;subst hv;refine gW (vr:=[.int .i64 (Lib.indexByte s (c.getD 0 0))]) func65 rfl C9 rfl ?_;obtain⟨x,rfl⟩:∃ x,c=[x]:=by
    match c,o with
    | [x],_=>exact⟨x,rfl⟩
    | [],h=>cases h
    | _::_::_,h=>simp at h
   exact(Tryz.strings_Index_one ⟨⟨s⟩⟩ x w).mono fun e w' ⟨h1,m⟩=>⟨h1,by subst m;exact RowKit.Below.refl _ _⟩
  .cases f
 .cases f
def A94(s:B0)(c:UInt8) : -1<=Lib.indexByte s c/\(Lib.indexByte s c<(s.length:Int)):=by
 have h:=Lib.indexByte_ge s c;by_cases h0:0<=Lib.indexByte s c
 .have:=(QU h0).2.1;omega
 .omega
def KB{c:UInt8}{k:Nat}{a:List B0}{s:B0}{i:Nat}(h:Lib.indexByte s c<0):spl c k a s i=(a,s,i):=by
 cases k with
 | zero=>rfl
 | succ k=>rw[spl,A8 h]
def A4M{c:UInt8}{a:List B0}{s:B0}{n m:Int}(h0:0<=i)(h1:i<n)(hm:m=Lib.indexByte s c)(e:¬m<0):spl c (n-i).toNat a s i.toNat=spl c (n-(i+1)).toNat (a.set i.toNat ((s.drop (0:Int).toNat).take ((m+0).toNat-(0:Int).toNat))) (s.drop (m+1).toNat) (i+1).toNat:=by
 subst hm;rw[show(n-i).toNat=(n-(i+1)).toNat+1 by omega,spl,A6 e,show(Lib.indexByte s c+0).toNat=(Lib.indexByte s c).toNat by omega,show(Lib.indexByte s c+1).toNat=(Lib.indexByte s c).toNat+1 by omega,show(i+1).toNat=i.toNat+1 by omega];rfl
def UT{c:UInt8}{k:Nat}{a:Option (List B0)}{s:B0}(h:spl c k (el a) s i.toNat=(el a,s,i.toNat))(hi:0<=i)(e:a=some (el a)):some (0,[U.str (spl c k (el a) s i.toNat).2.1,E8 rS (some (spl c k (el a) s i.toNat).1),U.int .i64 (spl c k (el a) s i.toNat).2.2])=some (0,[U.str s,E8 rS a,U.int .i64 i]):=by
 rw[h];show some (0,[U.str s,E8 rS (some (el a)),U.int .i64 (i.toNat:Int)])=_;rw[<- e,eD hi]
noncomputable def B3t:O9:=⟨_,fun e=>(.cons (A8g e) (.cons (B2C e) .nil))⟩
def wC:List U->Option (Nat×List U)
 | [.str s,.str c,.int .i64 n,u_a,.int .i64 i]=>(P4 rS u_a).bind fun a=>if c.length=1/\0<=i/\i<=n/\n<((el a).length:Int)/\((el a).length:Int)<=1000000000/\s.length<=1000000000/\a=some (el a)then some (0,[.str (spl (c.getD 0 0) (n-i).toNat (el a) s i.toNat).2.1,E8 rS (some (spl (c.getD 0 0) (n-i).toNat (el a) s i.toNat).1),.int .i64 (spl (c.getD 0 0) (n-i).toNat (el a) s i.toNat).2.2])else none
 | _=>none
def sW(s:B0)(c:B0)(n:Int)(a:(Option (List B0)))(i:Int)(e:c.length=1/\0<=i/\i<=n/\n<((el a).length:Int)/\((el a).length:Int)<=1000000000/\s.length<=1000000000/\a=some (el a)):wC [.str s,.str c,.int .i64 n,E8 rS a,.int .i64 i]=some (0,[.str (spl (c.getD 0 0) (n-i).toNat (el a) s i.toNat).2.1,E8 rS (some (spl (c.getD 0 0) (n-i).toNat (el a) s i.toNat).1),.int .i64 (spl (c.getD 0 0) (n-i).toNat (el a) s i.toNat).2.2]):=by
 simp only[wC,I0,F1];exact A8 e
def A7_:R1:=⟨[(0,h 0 9),(1,h 1 9),(2,.int .i64 (0)),(3,h 2 3),(9,own 18 3 11),(10,h 4 3)],[(18,.sq 3 11 9 19),(19,.frz)],5,[⟨.exit 0,[(0,h 0 9),(9,own 20 1 11),(10,h 2 3)],[(20,.sq 1 11 9 21),(21,.frz)],3⟩]⟩
noncomputable def A2n:Code:=(f67.body).getD .skip
noncomputable def A76:Code:=match G6 [true,true,true,true,true,true,true,true,false,false] A2n with|some (.loop x)=>x|_=>.skip
def A79:f67.body=some A2n:=rfl
def A78:G6 [true,true,true,true,true,true,true,true,false,false] A2n=some (.loop A76):=C9
def A77:Tr:=Z6 4 2 5 (.fn MK [h 0 9,h 1 9] 1<|Y0 6 7 0 (.ret [jI 0,h 0 9,h 3 11,h3 4]) (aA [h3 6,jI 0]<|.lt 9 (.sub) [h 0 9,jI 0,h3 8]<|cQ 3 4 10 (.dt 11 (.set 1 0) [h 3 11,h3 4,h 9 9]<|aD [h 1 9]<|aA [h3 6,h3 12]<|.lt 9 (.sub1) [h 0 9,h3 13]<|aA [h3 4,jI 1]<|.ret [jI (-1),h 14 9,h 1 9,h3 2,h 11 11,h3 15]))) (.ret [jI 0,h 0 9,h 3 11,h3 4])
def A2m:List U->Nat
 | [.str s,.str c,.int .i64 n,u_a,.int .i64 i]=>(match P4 rS u_a with|some a=>(n-i).toNat|none=>0)
 | _=>0
def A2l(s:B0)(c:B0)(n:Int)(a:(Option (List B0)))(i:Int):A2m [.str s,.str c,.int .i64 n,E8 rS a,.int .i64 i]=(n-i).toNat:=by
 simp only[A2m,I0]
def B2M{G}(p:K4 G):∀ (E:Nat->U) (base:Nat),@Q1 ⟨E,G⟩ prog base gl f67.ntmps A76 (M1 prog gl n0 22 A7_ wC):=by
 refine R4 (dep:=60) (f:=67) (n0:=n0) (nB:=22) (H0:=H0) A2m A77 (cxg (B3t.2 p) .nil) p func67 A79 A78 C9 C9 C9 ?_;intro us d outs m;have u:=m;unfold wC at m;split at m
 .skip;rename_i s c n h i;have q:=C3.1 m;clear m;obtain⟨a,l,m⟩:=q;replace l:=L1 l;subst l;split at m
  .rename_i o;clear m u;have A:=A94 s (c.getD 0 0);refine⟨rfl,?_⟩;unfold A77;refine w0 (.cons 4 _ (.cons 3 _ (.cons 2 _ (.cons 1 _ (.cons 0 _ (.nil)))))) ?_;refine aK ?_;refine w5 (fun g0=>?_) fun g0=>?_
   .refine w7 [.int .i64 _,.str _,E8 rS _,.int .i64 _] ?_;refine H7 (d:=0) ?_;rw[sW _ _ _ _ _ o];refine UT ?_ o.2.1 o.2.2.2.2.2.2;first|exact KB A2|(rw[show(n-i).toNat=0 by omega];rfl)
   refine w31 MK (e:=A5G _ _ A2) (k':=?_);refine aK ?_;refine w4 (fun g1=>?_) fun g1=>?_
   .refine w7 [.int .i64 _,.str _,E8 rS _,.int .i64 _] ?_;refine H7 (d:=0) ?_;rw[sW _ _ _ _ _ o];refine UT ?_ o.2.1 o.2.2.2.2.2.2;first|exact KB A2|(rw[show(n-i).toNat=0 by omega];rfl)
   first|refine bW ?_|refine W4 ?_
   refine w1 (.sub) (e:=t6 _ _ _ _ _ A2 A2 A2) (k':=?_);refine dV ?_;refine w5 (fun g2=>?_) fun g2=>?_
   .refine w8 ?_;first|omega|(simp_all;done)|(simp_all;omega)
   refine w2 (.set 1 0) (r:=rS) (e:=HZ _ rfl (A1 rfl) A2 A2 rfl) (k':=?_);refine eG ?_;first|refine bW ?_|refine W4 ?_
   refine w1 (.sub1) (e:=cU _ _ _ A2 A2) (k':=?_);first|refine bW ?_|refine W4 ?_
   refine w7 [.int .i64 _,.str _,.str _,.int .i64 _,E8 rS _,.int .i64 _] ?_;refine M2 ?_ ?_
   .have w:(c.length:Int)=1:=A2;rw[w,sW _ _ _ _ _ ⟨o.1,A2,A2,by rw[oE,M8];omega,by rw[oE,M8];omega,by rw[D7];omega,rfl⟩,sW _ _ _ _ _ o,A4M o.2.1 g0 rfl g1];rfl
   .rw[A2l,A2l];omega
  .cases m
 .cases m
noncomputable def B4D:List LpE:=(67,([true,true,true,true,true,true,true,true,false,false],M1 prog gl n0 22 A7_ wC))::[]
def A38{G}(e:K4 G):W5 prog G gl B4D:=.cons func67 A79 A78 (B2M e) .nil
def ZO{c:UInt8}:∀ (k:Nat) (a:List B0) (s:B0) (i:Nat),(spl c k a s i).1.length=a.length/\i<=(spl c k a s i).2.2/\(spl c k a s i).2.2<=i+k
 | 0,a,s,i=>⟨rfl,A7 _,A7 _⟩
 | k+1,a,s,i=>by
   unfold spl;split
   .exact⟨rfl,A7 _,by show i<=i+(k+1);omega⟩
   .obtain⟨h1,e,h3⟩:=ZO (c:=c) k (a.set i (s.take (Lib.indexByte s c).toNat)) (s.drop ((Lib.indexByte s c).toNat+1)) (i+1);rw[M8]at h1;exact⟨h1,A2,A2⟩
def oN(s:B0)(c:UInt8):=spl c (min (s.count c+1) (s.length+1)-1) (List.replicate (min (s.count c+1) (s.length+1)) []) s 0
def A4N(s:B0)(c:UInt8):((el (some (oN s c).1)).length:Int)=min (s.count c+1) (s.length+1)/\(oN s c).2.2<min (s.count c+1) (s.length+1):=by
 obtain⟨h1,e,h3⟩:=ZO (c:=c) (min (s.count c+1) (s.length+1)-1) (List.replicate (min (s.count c+1) (s.length+1)) []) s 0;rw[U2]at h1;unfold oN el;exact⟨by show((spl _ _ _ _ _).1.length:Int)=_;omega,A2⟩
def B2N{s c:B0}(f:c.length=1)(m:s.length<=100000):wC [.str s,.str c,.int .i64 (min ((Lib.countByte s (c.getD 0 0):Int)+1) ((s.length:Int)+1)-1),E8 rS (some (List.replicate (min ((Lib.countByte s (c.getD 0 0):Int)+1) ((s.length:Int)+1)).toNat [])),.int .i64 0]=some (0,[.str (oN s (c.getD 0 0)).2.1,E8 rS (some (oN s (c.getD 0 0)).1),.int .i64 (oN s (c.getD 0 0)).2.2]):=by
 have e:(min ((Lib.countByte s (c.getD 0 0):Int)+1) ((s.length:Int)+1)).toNat=min (s.count (c.getD 0 0)+1) (s.length+1):=by unfold Lib.countByte;omega
 have l:(min ((Lib.countByte s (c.getD 0 0):Int)+1) ((s.length:Int)+1)-1-0).toNat=min (s.count (c.getD 0 0)+1) (s.length+1)-1:=A2;rw[sW _ _ _ _ _ ⟨f,A2,A2,by rw[O5,U2];omega,by rw[O5,U2];omega,A2,rfl⟩,O5,e,l];rfl
def A1W(s:B0)(c:UInt8):E8 rS (lO (A4R (some (oN s c).1) ((oN s c).2.2:Int).toNat (oN s c).2.1) (0:Int).toNat ((oN s c).2.2+1:Int).toNat)=E8 rS (some (sp c s)):=by
 rw[<- zN];have e:((oN s c).2.2+1:Int).toNat=(oN s c).2.2+1:=A2;rw[e];rfl
noncomputable def B3G:O9:=⟨_,fun e=>(.cons (A8g e) .nil)⟩
def DG:List U->Option (Nat×List U)
 | [.str s,.str c]=>if c.length=1/\s.length<=100000 then some (0,[E8 rS ((some (sp (c.getD 0 0) s)))])else none
 | _=>none
def A4L(s:B0)(c:B0)(e:c.length=1/\s.length<=100000):DG [.str s,.str c]=some (0,[E8 rS ((some (sp (c.getD 0 0) s)))]):=A8 e
def A6D:Tr:=aE [h 1 9,.string ⟨⟨[]⟩⟩]<|.br 2 (.no) (.fn NM [h 0 9,h 1 9] 1<|aA [h3 3,jI 1]<|aD [h 0 9]<|aA [h3 5,jI 1]<|.lt 3 (.min) [h3 4,h3 6]<|.dt 11 (.rep 1) [h3 7,.string ⟨⟨[]⟩⟩]<|aS [h3 7,jI 1]<|.fn wC [h 0 9,h 1 9,h3 9,h 8 11,jI 0] 3<|cQ 11 12 13 (.dt 11 (.set 1 0) [h 11 11,h3 12,h 10 9]<|aA [h3 12,jI 1]<|.dt 11 (.subs 1) [h 14 11,jI 0,h3 15]<|.ret [h 16 11]))
def A6E{G}(f:K4 G):L6 prog G 31 [.s 9,.s 9] DG [.s 11]:=by
 refine F3 (d:=60) A6D (cxg (B3G.2 f) (A38 f)) f ⟨f31,_,func31,rfl⟩ C9 C9 ?_;intro us outs l;unfold DG at l;split at l
 .skip;rename_i s c;split at l
  .rename_i m;cases l;have o:Lib.countByte s (c.getD 0 0)<=s.length:=dO;have p:=A4N s (c.getD 0 0);have n:((el (A4R (some (oN s (c.getD 0 0)).1) ((oN s (c.getD 0 0)).2.2:Int).toNat (oN s (c.getD 0 0)).2.1)).length:Int)=(el (some (oN s (c.getD 0 0)).1)).length:=by rw[oE,M8]
   unfold A6D;refine w0 (.cons 1 _ (.cons 0 _ (.nil))) ?_;refine yK ?_;refine w4 (fun g0=>?_) fun g0=>?_
   .refine w8 ?_;first|omega|(exfalso;subst g0;exact absurd m.1 E3)
   refine w31 NM (e:=A5l _ _ A2) (k':=?_);first|refine bW ?_|refine W4 ?_
   refine eG ?_;first|refine bW ?_|refine W4 ?_
   refine B0x ?_;refine w2 (.rep 1) (r:=rS) (e:=A5Q rfl A2 A2 rfl) (k':=?_);first|refine OO ?_|refine yJ ?_
   refine w3 wC (e:=B2N m.1 m.2) (k':=?_);show Wk _ _ (.cons _ _ (.cons _ _ (.cons _ _ _)));refine dV ?_;refine w5 (fun g1=>?_) fun g1=>?_
   .refine w8 ?_;first|omega|(exfalso;subst g0;exact absurd m.1 E3)
   refine w2 (.set 1 0) (r:=rS) (e:=HZ _ rfl (A1 rfl) A2 A2 rfl) (k':=?_);first|refine bW ?_|refine W4 ?_
   refine w2 (.subs 1) (r:=rS) (e:=NA rfl A2 A2 A2) (k':=?_);refine w7 [E8 rS _] ?_;exact E1 (fun z=>[z]) (A1W s (c.getD 0 0))
  .cases l
 .cases l
def A9v(s:B0):Lib.cut s [32]=Q6 s:=by
 unfold Lib.cut;rw[Lib.index_one];by_cases h:Lib.indexByte s 32<0
 .rw[A6 A2,A3L (B5d h)]
 .rw[A8 A2,RC (B5c h)];have e:(Lib.indexByte s 32+1).toNat=(Lib.indexByte s 32).toNat+1:=A2;rw[e];rfl
def EX:List U->Option (Nat×List U)
 | [.str s,.str c]=>if s.length<=100000000/\c=[32]then some (0,[.str ((Q6 s).1),.str ((Q6 s).2.1),.bool ((Q6 s).2.2)])else none
 | _=>none
def A5f(s:B0)(c:B0)(e:s.length<=100000000/\c=[32]):EX [.str s,.str c]=some (0,[.str ((Q6 s).1),.str ((Q6 s).2.1),.bool ((Q6 s).2.2)]):=A8 e
def B2o{G}(m:K4 G):L6 prog G 91 [.s 9,.s 9] EX [.s 9,.s 9,.s 8]:=by
 intro us outs w vs R l f p hR;unfold EX at f;split at f
 .skip;rename_i s c;split at f
  .rename_i q;cases f;have hv:=V6 (vs2:=[.string ⟨⟨s⟩⟩,.string ⟨⟨c⟩⟩]) l rfl;subst hv;refine gW (vr:=[.string ⟨⟨(Q6 s).1⟩⟩,.string ⟨⟨(Q6 s).2.1⟩⟩,.bool (Q6 s).2.2]) func91 rfl C9 rfl ?_;obtain⟨u,rfl⟩:=q;refine(Tryz.strings_Cut_shaped ⟨⟨s⟩⟩ ⟨⟨[32]⟩⟩ w (wW m p) (by show s.length<_;omega)).mono fun e w' ⟨h1,n,o⟩=>⟨?_,by subst o;exact⟨rfl,rfl,rfl,A7 _,fun _ _=>rfl⟩⟩
   rw[show Lib.cut (ByteArray.mk (Array.mk s)).data.toList (ByteArray.mk (Array.mk [32])).data.toList=Q6 s from A9v s]at h1;exact h1
  .cases f
 .cases f
def lbn{s S:B0}{R B:Bool}(h:bnR s=R/\bnA s=S)(e:B=decide ((Q6 S).2.2=true/\aO (Q6 S).1=0/\(Q6 S).2.1≠[])):[U.int .i64 (kpO (Q6 S).1).1,.int .i64 (kpO (Q6 S).1).2.1,.int .i64 (kpO (Q6 S).1).2.2.1,.int .i64 (kpO (Q6 S).1).2.2.2.1,.int .i64 (kpO (Q6 S).1).2.2.2.2.1,.int .i64 (kpO (Q6 S).1).2.2.2.2.2.1,.int .i64 (kpO (Q6 S).1).2.2.2.2.2.2.1,.str (kpO (Q6 S).1).2.2.2.2.2.2.2,.str (Q6 S).2.1,.bool R,.bool B]=[U.int .i64 (bnG s).1,.int .i64 (bnG s).2.1,.int .i64 (bnG s).2.2.1,.int .i64 (bnG s).2.2.2.1,.int .i64 (bnG s).2.2.2.2.1,.int .i64 (bnG s).2.2.2.2.2.1,.int .i64 (bnG s).2.2.2.2.2.2.1,.str (bnG s).2.2.2.2.2.2.2.1,.str (bnG s).2.2.2.2.2.2.2.2.1,.bool (bnG s).2.2.2.2.2.2.2.2.2,.bool (decide (bnP s))]:=by
 obtain⟨rfl,rfl⟩:=h;subst e;rw[(AF _).1];rfl
def B5u{s:B0}(h:¬3<=(s.length:Int)):bnR s=false/\bnA s=s:=by
 have e:bnR s=false:=D4 fun k=>h A2
 exact⟨e,by unfold bnA;rw[e,A6 E3]⟩
def CU{s:B0}(h:¬List.take ((3:Int).toNat-(0:Int).toNat) (List.drop (0:Int).toNat s)=[45,114,32]):bnR s=false/\bnA s=s:=by
 have e:bnR s=false:=D4 fun k=>h k.1
 exact⟨e,by unfold bnA;rw[e,A6 E3]⟩
def B2z{s:B0}(h:List.drop (3:Int).toNat s=[]):bnR s=false/\bnA s=s:=by
 have e:bnR s=false:=D4 fun k=>by
  have:=E1 List.length h;have q:=k.2;rw[D7]at this;simp at this;omega
 exact⟨e,by unfold bnA;rw[e,A6 E3]⟩
def B2y{s:B0}(h:List.take ((3:Int).toNat-(0:Int).toNat) (List.drop (0:Int).toNat s)=[45,114,32])(f:List.drop (3:Int).toNat s≠[]):bnR s=true/\bnA s=List.drop (3:Int).toNat s:=by
 have e:bnR s=true:=H5 ⟨h,Nat.lt_of_not_le fun k=>f (S5 k)⟩;exact⟨e,by unfold bnA;rw[e,A8 rfl];rfl⟩
def B57{S:B0}(h:(Q6 S).2.2=false):false=decide ((Q6 S).2.2=true/\aO (Q6 S).1=0/\(Q6 S).2.1≠[]):=(D4 fun k=>by rw[h]at k;cases k.1).symm
def B56{S:B0}(h:¬kpE (Q6 S).1=0):false=decide ((Q6 S).2.2=true/\aO (Q6 S).1=0/\(Q6 S).2.1≠[]):=(D4 fun k=>h ((AF _).2.trans k.2.1)).symm
def B55{S:B0}(h1:(Q6 S).2.2=true)(h:kpE (Q6 S).1=0):decide ((Q6 S).2.1≠[])=decide ((Q6 S).2.2=true/\aO (Q6 S).1=0/\(Q6 S).2.1≠[]):=by
 rw[(AF _).2]at h;exact decide_eq_decide.2 ⟨fun k=>⟨h1,h,k⟩,fun k=>k.2.2⟩
def VO(s:B0):(Q6 s).1.length<=s.length:=by
 unfold Q6;split
 .show(List.take _ s).length<=_;rw[H3];omega
 .exact A7 _
noncomputable def B33:O9:=⟨_,fun e=>(.cons (B2o e) (.cons (TH e) .nil))⟩
def BS:List U->Option (Nat×List U)
 | [.str s]=>if s.length<=100000 then some (0,[.int .i64 ((bnG s).1),.int .i64 ((bnG s).2.1),.int .i64 ((bnG s).2.2.1),.int .i64 ((bnG s).2.2.2.1),.int .i64 ((bnG s).2.2.2.2.1),.int .i64 ((bnG s).2.2.2.2.2.1),.int .i64 ((bnG s).2.2.2.2.2.2.1),.str ((bnG s).2.2.2.2.2.2.2.1),.str ((bnG s).2.2.2.2.2.2.2.2.1),.bool ((bnG s).2.2.2.2.2.2.2.2.2),.bool (decide (bnP s))])else none
 | _=>none
def A5r(s:B0)(e:s.length<=100000):BS [.str s]=some (0,[.int .i64 ((bnG s).1),.int .i64 ((bnG s).2.1),.int .i64 ((bnG s).2.2.1),.int .i64 ((bnG s).2.2.2.1),.int .i64 ((bnG s).2.2.2.2.1),.int .i64 ((bnG s).2.2.2.2.2.1),.int .i64 ((bnG s).2.2.2.2.2.2.1),.str ((bnG s).2.2.2.2.2.2.2.1),.str ((bnG s).2.2.2.2.2.2.2.2.1),.bool ((bnG s).2.2.2.2.2.2.2.2.2),.bool (decide (bnP s))]):=A8 e
def RJ(n:Nat):Tr:=.fn EX [h 0 9,.string ⟨⟨[32]⟩⟩] 3<|.fn sB [h n 9] 9<|.br (n+2) (J1 (n+11) (n+12) 0 (aN [h (n+1) 9,.string ⟨⟨[]⟩⟩]<|.ret [h3 (n+3),h3 (n+4),h3 (n+5),h3 (n+6),h3 (n+7),h3 (n+8),h3 (n+9),h (n+10) 9,h (n+1) 9,.bool false,h (n+13) 8]) (.ret [h3 (n+3),h3 (n+4),h3 (n+5),h3 (n+6),h3 (n+7),h3 (n+8),h3 (n+9),h (n+10) 9,h (n+1) 9,.bool false,.bool false])) (.ret [h3 (n+3),h3 (n+4),h3 (n+5),h3 (n+6),h3 (n+7),h3 (n+8),h3 (n+9),h (n+10) 9,h (n+1) 9,.bool false,.bool false])
def A8o:Tr:=aU 3 0 1 (.lt 9 (.sub) [h 0 9,jI 0,jI 3]<|aE [h 3 9,.string ⟨⟨[45,114,32]⟩⟩]<|L2 4 5 (RJ 6) (gG 3 0 6 (.fn EX [h 6 9,.string ⟨⟨[32]⟩⟩] 3<|.fn sB [h 8 9] 9<|.br 10 (J1 19 20 0 (aN [h 9 9,.string ⟨⟨[]⟩⟩]<|.ret [h3 11,h3 12,h3 13,h3 14,h3 15,h3 16,h3 17,h 18 9,h 9 9,.bool true,h 21 8]) (.ret [h3 11,h3 12,h3 13,h3 14,h3 15,h3 16,h3 17,h 18 9,h 9 9,.bool true,.bool false])) (.ret [h3 11,h3 12,h3 13,h3 14,h3 15,h3 16,h3 17,h 18 9,h 9 9,.bool true,.bool false])) (RJ 8))) (RJ 3)
def A8p{G}(l:K4 G):L6 prog G 55 [.s 9] BS [.a [3,3,3,3,3,3,3,9,9,8],.s 8]:=by
 refine F3 (d:=60) A8o (cxg (B33.2 l) .nil) l ⟨f55,_,func55,rfl⟩ C9 C9 ?_;intro us outs f;unfold BS at f;split at f
 .skip;rename_i s;split at f
  .rename_i n;cases f;unfold A8o;refine w0 (.cons 0 _ (.nil)) ?_;repeat (first|refine w4 (fun g=>?_) fun g=>?_|refine w4B (fun g=>?_) fun g=>?_|(refine w7 [.int .i64 _,.int .i64 _,.int .i64 _,.int .i64 _,.int .i64 _,.int .i64 _,.int .i64 _,.str _,.str _,.bool _,.bool _] ?_;rotate_left)|refine OP ?_|(refine w3 EX (e:=A5f _ _ ⟨by first|omega|(rw[D7];omega),rfl⟩) (k':=?_);show Wk _ _ (.cons _ _ (.cons _ _ (.cons _ _ _))))|(refine w3 sB (e:=TG _ (by have o:=VO s;have m:=VO (List.drop (3:Int).toNat s);rw[D7]at m;omega)) (k':=?_);show Wk _ _ (.cons _ _ (.cons _ _ (.cons _ _ (.cons _ _ (.cons _ _ (.cons _ _ (.cons _ _ (.cons _ _ (.cons _ _ _))))))))))|refine eH ?_|refine eG ?_|refine jD ?_|refine w1 (.sub) (e:=t6 _ _ _ _ _ A2 A2 A2) (k':=?_)|refine yK ?_|refine Z5 ?_|refine w1 (.sub1) (e:=cU _ _ _ A2 A2) (k':=?_))
   all_goals
    refine lbn (by first|exact B5u ‹_›|exact CU ‹_›|exact CU (B5.1 ‹_›)|exact B2z ‹_›|exact B2z (B5.1 ‹_›)|exact B2y ‹_› ‹_›|exact B2y (B5.1 ‹_›) ‹_›) ?_;first|exact B57 ‹_›|exact B56 ‹_›|exact B55 ‹_› ‹_›
    all_goals (trace_state;done)
  .cases f
 .cases f
def B01{s c:B0}(e:c=[10])(h:(s.length:Int)<=16384):DG [.str s,.str c]=some (0,[E8 rS (some (sp 10 s))]):=by
 subst e;exact A4L _ _ ⟨rfl,A2⟩
def B46{l:List B0}(h0:0<=i)(h1:i<(l.length:Int)):o9 acc (some ((l.drop i.toNat).map lnG))=o9 (o9 acc (some [lnG (l.getD i.toNat default)])) (some ((l.drop (i+1).toNat).map lnG)):=by
 rw[R5 l h0 h1,C5,uY];rfl
def B47{l:List B0}(h:(l.length:Int)<=i):o9 acc (some ((l.drop i.toNat).map lnG))=acc:=by
 rw[bJ l h];exact IQ acc
def B5D{s:B0}(h:¬¬List.take ((5:Int).toNat-(0:Int).toNat) (List.drop (0:Int).toNat s)=[98,105,110,100,32])(e:¬¬bnP (List.drop (5:Int).toNat s)):mI s=false:=QN ⟨B5.1 h,B5.1 e⟩
def B5G{s:B0}(h:¬5<=(s.length:Int)):mI s=true:=HD fun k=>by
 have:=E1 List.length k.1;rw[H3]at this;have this:min 5 s.length=5:=this;omega
def B5F{s:B0}(h:¬List.take ((5:Int).toNat-(0:Int).toNat) (List.drop (0:Int).toNat s)=[98,105,110,100,32]):mI s=true:=HD fun k=>h k.1
def B5E{s:B0}(e:¬bnP (List.drop (5:Int).toNat s)):mI s=true:=HD fun k=>e k.2
noncomputable def B3a:O9:=⟨_,fun e=>(.cons (A6E e) (.cons (TH e) (.cons (A16 e) (.cons (A8p e) .nil))))⟩
def vW:List U->Option (Nat×List U)
 | [u_ls,.int .i64 n,.int .i64 i,.int .i64 p1,.int .i64 p2,.int .i64 p3,.int .i64 p4,.int .i64 p5,.int .i64 p6,.int .i64 p7,.str p8,u_acc]=>(P4 rS u_ls).bind fun ls=>(P4 rG u_acc).bind fun acc=>if n=((el ls).length:Int)/\0<=i/\i<=n/\n<=20000/\((el acc).length:Int)<=i/\(∀ x ∈ el ls,x.length<=20000)then R9 (H8 mI ((el ls).drop i.toNat) i) [.int .i64 p1,.int .i64 p2,.int .i64 p3,.int .i64 p4,.int .i64 p5,.int .i64 p6,.int .i64 p7,.str p8,E8 rG (o9 acc (some (((el ls).drop i.toNat).map lnG)))] (fun _=>[])else none
 | _=>none
def rZ(ls:(Option (List B0)))(n:Int)(i:Int)(p:Int)(m:Int)(e:Int)(l:Int)(q:Int)(o:Int)(f:Int)(p8:B0)(acc:(Option (List (Int×Int×Int×Int×Int×Int×Int×B0×B0×Bool))))(s:n=((el ls).length:Int)/\0<=i/\i<=n/\n<=20000/\((el acc).length:Int)<=i/\(∀ x ∈ el ls,x.length<=20000)):vW [E8 rS ls,.int .i64 n,.int .i64 i,.int .i64 p,.int .i64 m,.int .i64 e,.int .i64 l,.int .i64 q,.int .i64 o,.int .i64 f,.str p8,E8 rG acc]=R9 (H8 mI ((el ls).drop i.toNat) i) [.int .i64 p,.int .i64 m,.int .i64 e,.int .i64 l,.int .i64 q,.int .i64 o,.int .i64 f,.str p8,E8 rG (o9 acc (some (((el ls).drop i.toNat).map lnG)))] (fun _=>[]):=by
 simp only[vW,I0,F1];exact A8 s
def A7A:R1:=⟨[(2,.pointer (some ⟨16,0,none⟩)),(10,.pointer (some ⟨19,0,none⟩)),(61,dat 20 0 11),(62,h 1 3),(63,h 2 3)],[(16,.cells 35 [.int .i64 (0),.int .i64 (0),.int .i64 (0),.int .i64 (0),.int .i64 (0),.int .i64 (0),.int .i64 (0),.string ⟨⟨[]⟩⟩,.slice none 0 0]),(19,.cells 35 [h 3 3,h 4 3,h 5 3,h 6 3,h 7 3,h 8 3,h 9 3,h 10 9,own 21 11 20]),(21,.sq 11 20 32 22),(20,.frz),(22,.frz)],12,[⟨.exit 0,[(2,.pointer (some ⟨16,0,none⟩)),(10,.pointer (some ⟨19,0,none⟩))],[(16,.cells 35 [.int .i64 (0),.int .i64 (0),.int .i64 (0),.int .i64 (0),.int .i64 (0),.int .i64 (0),.int .i64 (0),.string ⟨⟨[]⟩⟩,.slice none 0 0]),(19,.cells 35 [h 0 3,h 1 3,h 2 3,h 3 3,h 4 3,h 5 3,h 6 3,h 7 9,own 23 8 20]),(23,.sq 8 20 32 24),(24,.frz)],9⟩,⟨.ret,[(2,.pointer (some ⟨16,0,none⟩)),(3,.int .i64 (6))],[(16,.cells 35 [.int .i64 (0),.int .i64 (0),.int .i64 (0),.int .i64 (0),.int .i64 (0),.int .i64 (0),.int .i64 (0),.string ⟨⟨[]⟩⟩,.slice none 0 0])],0⟩]⟩
noncomputable def A1R:Code:=(f23.body).getD .skip
noncomputable def A67:Code:=match G6 [true,true,true,true,true,true,true,true,false,true,false] A1R with|some (.loop x)=>x|_=>.skip
def A6_:f23.body=some A1R:=rfl
def A69:G6 [true,true,true,true,true,true,true,true,false,true,false] A1R=some (.loop A67):=C9
def A68:Tr:=Z6 2 1 12 (cQ 0 2 13 (.lt 9 (.get 1 0) [h 0 11,h3 2]<|aU 5 14 15 (.lt 9 (.sub) [h 14 9,jI 0,jI 5]<|aE [h 17 9,.string ⟨⟨[98,105,110,100,32]⟩⟩]<|L2 18 19 (.fn BS [h 14 9] 11<|I2 1) (.lt 9 (.sub1) [h 14 9,jI 5]<|.fn BS [h 20 9] 11<|L2 31 32 (I2 1) (.dt 20 (.snoc 10) [h 11 20,h3 21,h3 22,h3 23,h3 24,h3 25,h3 26,h3 27,h 28 9,h 29 9,h 30 8]<|aA [h3 2,jI 1]<|.ret [jI (-1),h 0 11,h3 1,h3 34,h3 3,h3 4,h3 5,h3 6,h3 7,h3 8,h3 9,h 10 9,h 33 20]))) (.fn BS [h 14 9] 11<|I2 1))) (xM 3)
def A1Q:List U->Nat
 | [u_ls,.int .i64 n,.int .i64 i,.int .i64 p1,.int .i64 p2,.int .i64 p3,.int .i64 p4,.int .i64 p5,.int .i64 p6,.int .i64 p7,.str p8,u_acc]=>(match P4 rS u_ls with|some ls=>(match P4 rG u_acc with|some acc=>(n-i).toNat|none=>0)|none=>0)
 | _=>0
def A1P(ls:(Option (List B0)))(n:Int)(i:Int)(p:Int)(m:Int)(e:Int)(l:Int)(q:Int)(o:Int)(f:Int)(p8:B0)(acc:(Option (List (Int×Int×Int×Int×Int×Int×Int×B0×B0×Bool)))):A1Q [E8 rS ls,.int .i64 n,.int .i64 i,.int .i64 p,.int .i64 m,.int .i64 e,.int .i64 l,.int .i64 q,.int .i64 o,.int .i64 f,.str p8,E8 rG acc]=(n-i).toNat:=by
 simp only[A1Q,I0]
def B1S{G}(A:K4 G):∀ (E:Nat->U) (base:Nat),@Q1 ⟨E,G⟩ prog base gl f23.ntmps A67 (M1 prog gl n0 25 A7A vW):=by
 refine R4 (dep:=60) (f:=23) (n0:=n0) (nB:=25) (H0:=H0) A1Q A68 (cxg (B3a.2 A) .nil) A func23 A6_ A69 C9 C9 C9 ?_;intro us d outs p;have K:=p;unfold vW at p;split at p
 .skip;rename_i M n i J F C D B I H p8 L;have w:=C3.1 p;clear p;obtain⟨ls,o,p⟩:=w;replace o:=L1 o;subst o;have s:=C3.1 p;clear p;obtain⟨acc,m,p⟩:=s;replace m:=L1 m;subst m;split at p
  .rename_i q;clear p K;have O:i<n->((el ls).getD i.toNat default).length<=20000:=fun h=>q.2.2.2.2.2 _ (fP q.2.1 A2)
   refine⟨rfl,?_⟩;unfold A68;refine w0 (.cons 11 _ (.cons 10 _ (.cons 9 _ (.cons 8 _ (.cons 7 _ (.cons 6 _ (.cons 5 _ (.cons 4 _ (.cons 3 _ (.cons 2 _ (.cons 1 _ (.cons 0 _ (.nil))))))))))))) ?_;repeat (first|refine w4 (fun g=>?_) fun g=>?_|refine w4B (fun g=>?_) fun g=>?_|refine Z5 ?_|refine lF ?_|(refine w3 BS (e:=A5r _ (by have z:=O ‹_›;first|omega|(rw[D7];omega))) (k':=?_);show Wk _ _ (.cons _ _ (.cons _ _ (.cons _ _ (.cons _ _ (.cons _ _ (.cons _ _ (.cons _ _ (.cons _ _ (.cons _ _ (.cons _ _ (.cons _ _ _))))))))))))|(refine w7 [.int .i64 _] ?_;rotate_left)|refine bW ?_|refine W4 ?_|refine aK ?_|refine dV ?_|refine w1 (.get 1 0) (u:=.str _) (e:=E5 rfl A2 A2 rfl) (k':=?_)|refine eG ?_|refine jD ?_|refine w1 (.sub) (e:=t6 _ _ _ _ _ A2 A2 A2) (k':=?_)|refine yK ?_|refine w1 (.sub1) (e:=cU _ _ _ A2 A2) (k':=?_)|refine w2 (.snoc 10) (r:=rG) (e:=mR (a:=lnG ((el ls).getD i.toNat default)) rfl rfl E3 A2) (k':=?_)|(refine w7 [.int .i64 _,E8 rS _,.int .i64 _,.int .i64 _,.int .i64 _,.int .i64 _,.int .i64 _,.int .i64 _,.int .i64 _,.int .i64 _,.int .i64 _,.str _,E8 rG _] ?_;rotate_left)|(refine w8 ?_;first|omega)|(refine w7 [.int .i64 _,.int .i64 _,.int .i64 _,.int .i64 _,.int .i64 _,.int .i64 _,.int .i64 _,.int .i64 _,.str _,E8 rG _] ?_;rotate_left))
   all_goals first
    | refine M2 ?_ ?_
      .rw[rZ ls n (i+1) J F C D B I H p8 _ ⟨q.1,A2,A2,q.2.2.2.1,by rw[O5,B7,cB];omega,q.2.2.2.2.2⟩,rZ ls n i J F C D B I H p8 acc q,W1 (i:=i) q.2.1 A2 (B5D ‹_› ‹_›),B46 (l:=el ls) (i:=i) q.2.1 A2];rfl
      .rw[A1P,A1P];omega
    | refine H7 (d:=0) ?_
      rw[rZ ls n i J F C D B I H p8 acc q,Z2 A2,B47 A2];rfl
    | refine H7 (d:=1) ?_
      have N:mI ((el ls).getD i.toNat default)=true:=by
       first
       | exact B5G ‹_›
       | exact B5F ‹_›
       | exact B5E ‹_›
      rw[rZ ls n i J F C D B I H p8 acc q,Z1 (i:=i) q.2.1 A2 N];rfl
  .cases p
 .cases p
noncomputable def B3_:List LpE:=(23,([true,true,true,true,true,true,true,true,false,true,false],M1 prog gl n0 25 A7A vW))::[]
def A31{G}(e:K4 G):W5 prog G gl B3_:=.cons func23 A6_ A69 (B1S e) .nil
def A9w{s:B0}{X:Xt}{L:Option (List Gt)}{E:Int}(h1:prX s=X)(e:prL s=L)(h3:prE s=E):[U.int .i64 X.1,.int .i64 X.2.1,.int .i64 X.2.2.1,.int .i64 X.2.2.2.1,.int .i64 X.2.2.2.2.1,.int .i64 X.2.2.2.2.2.1,.int .i64 X.2.2.2.2.2.2.1,.str X.2.2.2.2.2.2.2,E8 rG L,U.int .i64 E]=[U.int .i64 (prX s).1,.int .i64 (prX s).2.1,.int .i64 (prX s).2.2.1,.int .i64 (prX s).2.2.2.1,.int .i64 (prX s).2.2.2.2.1,.int .i64 (prX s).2.2.2.2.2.1,.int .i64 (prX s).2.2.2.2.2.2.1,.str (prX s).2.2.2.2.2.2.2,E8 rG (prL s),U.int .i64 (prE s)]:=by
 subst h1 e h3;rfl
def B1j{s:B0}{E:Int}(h:prE s=E)(e:E≠0):prX s=X0/\prL s=none/\prE s=E:=⟨(A9a (by rw[h];exact e)).1,(A9a (by rw[h];exact e)).2,h⟩
def B45{L:List B0}(h:¬7<=((L.getD (0:Int).toNat default).length:Int)):¬psP L:=fun k=>by
 have k:=E1 List.length k.1.1;rw[H3]at k;have e:L.getD (0:Int).toNat default=L.headD []:=by cases L<;>rfl
 rw[e]at h;have k:min 7 (L.headD []).length=7:=k;omega
def B44{L:List B0}(h:¬List.take ((7:Int).toNat-(0:Int).toNat) (List.drop (0:Int).toNat (L.getD (0:Int).toNat default))=[112,114,101,102,105,120,32]):¬psP L:=fun k=>h (by
 have e:L.getD (0:Int).toNat default=L.headD []:=by cases L<;>rfl
 rw[e];exact k.1.1)
def B43{L:List B0}(h:kpE (List.drop (7:Int).toNat (L.getD (0:Int).toNat default))≠0):¬psP L:=fun k=>h (by
 have e:L.getD (0:Int).toNat default=L.headD []:=by cases L<;>rfl
 rw[e,(AF _).2];exact k.1.2)
def B42{L:List B0}(h:(L.length:Int)-1=0):¬psP L:=fun k=>by
 have k:=k.2
 match L,h with
 | [a],_=>cases k
 | [],h=>simp at h
 | a::b::r,h=>simp only[C8]at h;omega
def A1O{L:List B0}(h0:1<=(L.length:Int))(h:¬(L.length:Int)-1=0):L.tail.getLast? = some (L.getD ((L.length:Int)-1).toNat default)/\L.tail.dropLast=((L.drop (1:Int).toNat).take (((L.length:Int)-1).toNat-(1:Int).toNat)).drop (0:Int).toNat:=by
 match L,h0,h with
 | a::b::r,_,_ =>
   have e:(((a::b::r).length:Int)-1).toNat=r.length+1:=by simp only[C8];omega
   rw[e];refine⟨?_,?_⟩
   .show(b::r).getLast? = some ((b::r).getD r.length default);rw[List.getLast?_eq_getElem?,B2];show(b::r)[r.length]? = _;rw[A5 (by simp)];rfl
   .show(b::r).dropLast=(b::r).take r.length;rw[List.dropLast_eq_take];rfl
 | [a],_,h=>exact absurd rfl h
def B41{L:List B0}(h0:1<=(L.length:Int))(h1:¬(L.length:Int)-1=0)(h:L.getD ((L.length:Int)-1).toNat default≠[]):¬psP L:=fun k=>by
 have k:=(KM.1 k.2).1;rw[(A1O h0 h1).1]at k;exact h (by injection k)
def B40{L:List B0}(h0:1<=(L.length:Int))(h1:¬(L.length:Int)-1=0)(h:H8 mI ((el (lO (some L) (1:Int).toNat ((L.length:Int)-1).toNat)).drop (0:Int).toNat) 0=some j):¬psP L:=fun k=>by
 have k:=(KM.1 k.2).2;rw[(A1O h0 h1).2]at k;rw[jW]at h
 have:=(fR h).1;rw[show el (some L)=L from rfl,k]at this;cases this
def B4x{L:List B0}(h0:1<=(L.length:Int))(h1:¬(L.length:Int)-1=0)(f:¬¬List.take ((7:Int).toNat-(0:Int).toNat) (List.drop (0:Int).toNat (L.getD (0:Int).toNat default))=[112,114,101,102,105,120,32])(h3:¬kpE (List.drop (7:Int).toNat (L.getD (0:Int).toNat default))≠0)(l:¬L.getD ((L.length:Int)-1).toNat default≠[])(h:H8 mI ((el (lO (some L) (1:Int).toNat ((L.length:Int)-1).toNat)).drop (0:Int).toNat) 0=none):psP L:=by
 have e:L.getD (0:Int).toNat default=L.headD []:=by cases L<;>rfl
 rw[e]at f h3;refine⟨⟨B5.1 f,?_⟩,KM.2 ⟨?_,?_⟩⟩
 .rw[(AF _).2]at h3;exact B5.1 h3
 .rw[(A1O h0 h1).1,B5.1 l]
 .rw[(A1O h0 h1).2];rw[jW]at h;exact iT h
def B4z{L:List B0}(h0:1<=(L.length:Int))(h1:¬(L.length:Int)-1=0):((el (lO (some L) (1:Int).toNat ((L.length:Int)-1).toNat)).drop (0:Int).toNat).map lnG=rgs L.tail:=by
 unfold rgs;rw[(A1O h0 h1).2,jW];rfl
def B4y{L:List B0}:kpO (List.drop (7:Int).toNat (L.getD (0:Int).toNat default))=X1 ((L.headD []).drop 7):=by
 have e:L.getD (0:Int).toNat default=L.headD []:=by cases L<;>rfl
 rw[e,(AF _).1];rfl
def AE{s:B0}{E:Int}(h:prE s=E)(e:E≠0):[U.int .i64 0,.int .i64 0,.int .i64 0,.int .i64 0,.int .i64 0,.int .i64 0,.int .i64 0,.str [],E8 rG none,U.int .i64 E]=[U.int .i64 (prX s).1,.int .i64 (prX s).2.1,.int .i64 (prX s).2.2.1,.int .i64 (prX s).2.2.2.1,.int .i64 (prX s).2.2.2.2.1,.int .i64 (prX s).2.2.2.2.2.1,.int .i64 (prX s).2.2.2.2.2.2.1,.str (prX s).2.2.2.2.2.2.2,E8 rG (prL s),U.int .i64 (prE s)] :=
 A9w (X:=X0) (B1j h e).1 (B1j h e).2.1 h
def WL(s:B0):1<=((sp 10 s).length:Int):=by
 have:=ZS s 10;omega
def A4O{s:B0}(h:¬16384<(s.length:Int)):((sp 10 s).length:Int)<=16385:=by
 have:=ZS s 10;have e:s.count 10<=s.length:=dO;omega
def B4r{s:B0}(h:¬16384<(s.length:Int))(h1:¬((sp 10 s).length:Int)-1=0)(hp:psP (sp 10 s)):prE s=oS (kpO (List.drop (7:Int).toNat ((sp 10 s).getD (0:Int).toNat default))) (el (o9 none (some (((el (lO (some (sp 10 s)) (1:Int).toNat (((sp 10 s).length:Int)-1).toNat)).drop (0:Int).toNat).map lnG))))/\psX s=kpO (List.drop (7:Int).toNat ((sp 10 s).getD (0:Int).toNat default))/\psL s=(o9 none (some (((el (lO (some (sp 10 s)) (1:Int).toNat (((sp 10 s).length:Int)-1).toNat)).drop (0:Int).toNat).map lnG))):=by
 have e:psX s=kpO (List.drop (7:Int).toNat ((sp 10 s).getD (0:Int).toNat default)):=(B4y (L:=sp 10 s)).symm;have f:psL s=(o9 none (some (((el (lO (some (sp 10 s)) (1:Int).toNat (((sp 10 s).length:Int)-1).toNat)).drop (0:Int).toNat).map lnG))):=by
  unfold psL;rw[B4z (WL s) h1]
 exact⟨by rw[A4n A2 hp,e,f],e,f⟩
def A90(s:B0) : -9223372036854775808<=(X1 s).2.2.1/\(X1 s).2.2.1<=9223372036854775807/\((X1 s).2.2.2.2.2.2.2.length:Int)<=140737488351232:=by
 unfold X1;split
 .rename_i h;obtain⟨e,h0,h1⟩:=UD h.1;rw[e];exact⟨by show _<=(cA s).2.2.1;omega,by show(cA s).2.2.1<=_;omega,by show(0:Int)<=_;decide⟩
 .exact⟨E3,E3,by show(0:Int)<=_;decide⟩
def B0X(s:B0):(Q6 s).2.1.length<=s.length:=by
 unfold Q6;split
 .show(List.drop _ s).length<=_;rw[D7];omega
 .exact dJ _
def A5t(s:B0):(bnA s).length<=s.length:=by
 unfold bnA;split
 .rw[D7];omega
 .exact A7 _
def A1y{s:B0}(h:s.length<=20000):gOk (lnG s):=by
 have h1:=A90 (Q6 (bnA (s.drop 5))).1;have e:=B0X (bnA (s.drop 5));have h3:=A5t (s.drop 5);rw[D7]at h3;refine⟨h1.1,h1.2.1,h1.2.2,?_⟩;show((Q6 (bnA (s.drop 5))).2.1.length:Int)<=_;omega
def ZX{s:B0}(h:¬16384<(s.length:Int)){i j:Nat}:∀ x ∈ el (lO (some (sp 10 s)) i j),x.length<=20000:=fun x hx=>by
 rw[jW]at hx
 have:=PE (dL (List.mem_of_mem_take hx));omega
def B1M{s:B0}(h:¬16384<(s.length:Int)):((el (o9 none (some (((el (lO (some (sp 10 s)) (1:Int).toNat (((sp 10 s).length:Int)-1).toNat)).drop (0:Int).toNat).map lnG)))).length:Int)<=140737488351232/\∀ g ∈ el (o9 none (some (((el (lO (some (sp 10 s)) (1:Int).toNat (((sp 10 s).length:Int)-1).toNat)).drop (0:Int).toNat).map lnG))),gOk g:=by
 have h1:=A4O h;rw[bH];show(((List.map lnG ((el (lO (some (sp 10 s)) (1:Int).toNat (((sp 10 s).length:Int)-1).toNat)).drop (0:Int).toNat)).length:Nat):Int)<=_/\∀ g ∈ List.map lnG ((el (lO (some (sp 10 s)) (1:Int).toNat (((sp 10 s).length:Int)-1).toNat)).drop (0:Int).toNat),gOk g;refine⟨?_,fun g e=>?_⟩
 .rw[E7,D7,jW,H3,D7];show(((min _ ((sp 10 s).length-_)-_:Nat)):Int)<=_;omega
 .obtain⟨x,hx,rfl⟩:=I6.1 e;exact A1y (ZX h x (dL hx))
def B4W{s:B0}{i j:Nat}(h:¬16384<(s.length:Int)):((el (lO (some (sp 10 s)) i j)).length:Int)<=20000:=by
 have:=A4O h;rw[jW,H3,D7];show(((min _ ((sp 10 s).length-_):Nat)):Int)<=_;omega
def A9x(s:B0) : -9223372036854775808<=(kpO s).2.2.1/\(kpO s).2.2.1<=9223372036854775807/\((kpO s).2.2.2.2.2.2.2.length:Int)<=140737488351232:=by rw[(AF s).1];exact A90 s
def B4U{s:B0}(h:¬16384<(s.length:Int)):(((el (some (sp 10 s))).getD (0:Int).toNat default).length:Int)<=140737488351232/\((List.drop (7:Int).toNat ((el (some (sp 10 s))).getD (0:Int).toNat default)).length:Int)<=140737488351232:=by
 have h1:=WL s
 have:=PE (fP (l:=sp 10 s) (i:=0) E3 A2);rw[D7];exact⟨by show(((sp 10 s).getD _ _).length:Int)<=_;omega,by show(((((sp 10 s).getD (0:Int).toNat default).length-_:Nat)):Int)<=_;omega⟩
noncomputable def B3Z:O9:=⟨_,fun e=>(.cons (A6E e) (.cons (TH e) (.cons (A16 e) (.cons (A8p e) .nil))))⟩
def LE:List U->Option (Nat×List U)
 | [.str s]=>if(s.length:Int)<=140737488351232 then some (0,[.int .i64 ((prX s).1),.int .i64 ((prX s).2.1),.int .i64 ((prX s).2.2.1),.int .i64 ((prX s).2.2.2.1),.int .i64 ((prX s).2.2.2.2.1),.int .i64 ((prX s).2.2.2.2.2.1),.int .i64 ((prX s).2.2.2.2.2.2.1),.str ((prX s).2.2.2.2.2.2.2),E8 rG (prL s),.int .i64 (prE s)])else none
 | _=>none
def A4m(s:B0)(e:(s.length:Int)<=140737488351232):LE [.str s]=some (0,[.int .i64 ((prX s).1),.int .i64 ((prX s).2.1),.int .i64 ((prX s).2.2.1),.int .i64 ((prX s).2.2.2.1),.int .i64 ((prX s).2.2.2.2.1),.int .i64 ((prX s).2.2.2.2.2.1),.int .i64 ((prX s).2.2.2.2.2.2.1),.str ((prX s).2.2.2.2.2.2.2),E8 rG (prL s),.int .i64 (prE s)]):=A8 e
def xF(a0:Nat)(e:Int):Tr:=.dt 20 (.nilw 10) []<|.ret [jI 0,jI 0,jI 0,jI 0,jI 0,jI 0,jI 0,.string ⟨⟨[]⟩⟩,h a0 20,jI e]
def zK(n:Nat):Tr:=xF n 6
def A1J(n:Nat):Tr:=.fn sB [h 7 9] 9<|zK (n+9)
def A66:Tr:=r9 0 1 16384 (xF 3 3) (.fn DG [h 0 9,.string ⟨⟨[10]⟩⟩] 1<|aD [h 3 11]<|aS [h3 4,jI 1]<|.lt 8 (.inbs 1) [jI 0,h 3 11]<|.br 6 (.lt 9 (.get 1 0) [h 3 11,jI 0]<|aU 7 7 8 (.lt 9 (.sub) [h 7 9,jI 0,jI 7]<|aE [h 10 9,.string ⟨⟨[112,114,101,102,105,120,32]⟩⟩]<|L2 11 12 (A1J 13) (.lt 9 (.sub1) [h 7 9,jI 7]<|.fn sB [h 13 9] 9<|u5 22 23 0 (zK 24) (J1 5 24 0 (zK 25) (cQ 3 5 25 (.lt 9 (.get 1 0) [h 3 11,h3 5]<|aN [h 26 9,.string ⟨⟨[]⟩⟩]<|.br 27 (zK 28) (.dt 11 (.subs 1) [h 3 11,jI 1,h3 5]<|aD [h 28 11]<|.dt 20 (.nilw 10) []<|.lp vW [h 28 11,h3 29,jI 0,h3 14,h3 15,h3 16,h3 17,h3 18,h3 19,h3 20,h 21 9,h 30 20] 0 9 (.fn wB [h3 31,h3 32,h3 33,h3 34,h3 35,h3 36,h3 37,h 38 9,h 39 20] 1<|u5 40 41 0 (.dt 20 (.nilw 10) []<|.ret [jI 0,jI 0,jI 0,jI 0,jI 0,jI 0,jI 0,.string ⟨⟨[]⟩⟩,h 42 20,h3 40]) (.ret [h3 31,h3 32,h3 33,h3 34,h3 35,h3 36,h3 37,h 38 9,h 39 20,jI 0])) (.lp vW [h 28 11,h3 29,jI 0,h3 14,h3 15,h3 16,h3 17,h3 18,h3 19,h3 20,h 21 9,h 30 20] 1 0 (zK 31) (.no)))))))) (A1J 10)) (.no))
def A1K{G}(f:K4 G):L6 prog G 23 [.s 9] LE [.a [3,3,3,3,3,3,3,9,20],.s 3]:=by
 refine F3 (d:=60) A66 (cxg (B3Z.2 f) (A31 f)) f ⟨f23,_,func23,rfl⟩ C9 C9 ?_;intro us outs l;unfold LE at l;split at l
 .skip;rename_i s;split at l
  .rename_i m;cases l;have o:1<=((el (some (sp 10 s))).length:Int):=WL s;have n:¬16384<(s.length:Int)->((el (some (sp 10 s))).length:Int)<=16385:=A4O;unfold A66;refine w0 (.cons 0 _ (.nil)) ?_;repeat (first|refine w4 (fun g=>?_) fun g=>?_|refine w2 (.nilw 10) (r:=rG) (e:=tD rfl) (k':=?_)|(refine w7 [.int .i64 _,.int .i64 _,.int .i64 _,.int .i64 _,.int .i64 _,.int .i64 _,.int .i64 _,.str _,E8 rG _,.int .i64 _] ?_;rotate_left)|(refine w3 sB (e:=TG _ (by have:=B4U (s:=s) ‹_›;first|exact this.1|exact this.2)) (k':=?_);show Wk _ _ (.cons _ _ (.cons _ _ (.cons _ _ (.cons _ _ (.cons _ _ (.cons _ _ (.cons _ _ (.cons _ _ (.cons _ _ _))))))))))|refine eG ?_|refine kL ?_|refine OO ?_|refine yJ ?_|refine dV ?_|refine w1 (.get 1 0) (u:=.str _) (e:=E5 rfl A2 A2 rfl) (k':=?_)|refine wT ?_|(refine w8 ?_;first|omega)|refine oM ?_|refine w31 DG (e:=B01 rfl A2) (k':=?_)|refine jD ?_|refine w1 (.sub) (e:=t6 _ _ _ _ _ A2 A2 A2) (k':=?_)|refine yK ?_|refine Z5 ?_|refine w1 (.sub1) (e:=cU _ _ _ A2 A2) (k':=?_)|refine eH ?_|refine OP ?_|refine w2 (.subs 1) (r:=rS) (e:=NA rfl A2 A2 A2) (k':=?_)|(refine w6 vW (rZ _ _ _ _ _ _ _ _ _ _ _ _ ⟨rfl,E3,A2,B4W ‹_›,E3,ZX ‹_›⟩) (h0:=fun g=>?_) (h1:=fun v g=>?_);show Wk _ _ (.cons _ _ (.cons _ _ (.cons _ _ (.cons _ _ (.cons _ _ (.cons _ _ (.cons _ _ (.cons _ _ (.cons _ _ _)))))))));rotate_left;skip;rotate_right)|refine w31 wB (e:=UF _ _ _ _ _ _ _ _ _ ⟨(A9x _).1,(A9x _).2.1,(A9x _).2.2,(B1M ‹_›).1,(B1M ‹_›).2⟩) (k':=?_))
   all_goals
    first
    | exact AE (A9b A2) E3
    | exact AE (PU A2 (B45 ‹_›)) E3
    | exact AE (PU A2 (B44 ‹_›)) E3
    | exact AE (PU A2 (B43 ‹_›)) E3
    | exact AE (PU A2 (B42 ‹_›)) E3
    | exact AE (PU A2 (B41 (WL s) ‹_› ‹_›)) E3
    | exact AE (PU A2 (B40 (WL s) ‹_› ‹_›)) E3
    | (have hp:=B4r (s:=s) ‹_› ‹_› (B4x (WL s) ‹_› ‹_› ‹_› ‹_› ‹_›)
       first
       | exact AE hp.1 ‹_›
       | (have h0:prE s=0:=hp.1.trans (B5.1 ‹_›)
          exact A9w ((PT h0).1.trans hp.2.1) ((PT h0).2.trans hp.2.2) h0)
)
  .cases l
 .cases l
def eqI(c:Int)(b:UInt8):Bool:=decide ((b.toNat:Int)=c)
def B2d{b:UInt8}(h:(b.toNat:Int)=c):eqI c b=true:=H5 h
def B2e{b:UInt8}(h:¬(b.toNat:Int)=c):eqI c b=false:=D4 h
def A8M(c:UInt8):eqI (c.toNat:Int)=eqC c:=funext fun b=>by
 unfold eqI eqC;refine decide_eq_decide.2 ⟨fun h=>UInt8.toNat_inj.1 A2,fun h=>by rw[h]⟩
def H1(c:Int)(s:B0):B0×B0×Bool:=match H8 (eqI c) s 0 with
 | some j=>(s.take j.toNat,s.drop (j+1).toNat,true)
 | none=>([],[],false)
def XZ{s:B0}(h:H8 (eqI c) s 0=some j):H1 c s=(s.take j.toNat,s.drop (j+1).toNat,true):=by unfold H1;rw[h]
def B0c{s:B0}(h:H8 (eqI c) s 0=none):H1 c s=([],[],false):=by unfold H1;rw[h]
def l3c{s a:B0}{d:Bool}(h:H1 c s=(a,b,d)):[U.str a,U.str b,U.bool d]=[U.str (H1 c s).1,U.str (H1 c s).2.1,U.bool (H1 c s).2.2]:=by rw[h]
noncomputable def B3z:O9:=⟨_,fun e=>.nil⟩
def BD:List U->Option (Nat×List U)
 | [.str s,.int .u8 c,.int .i64 i]=>if 0<=i/\i<=(s.length:Int)/\(s.length:Int)<=1000000000 then R9 (H8 (eqI c) (s.drop i.toNat) i) [] (fun j=>[.str ((s.drop (0:Int).toNat).take (j.toNat-(0:Int).toNat)),.str (s.drop (j+1).toNat)])else none
 | _=>none
def tH(s:B0)(c:Int)(i:Int)(e:0<=i/\i<=(s.length:Int)/\(s.length:Int)<=1000000000):BD [.str s,.int .u8 c,.int .i64 i]=R9 (H8 (eqI c) (s.drop i.toNat) i) [] (fun j=>[.str ((s.drop (0:Int).toNat).take (j.toNat-(0:Int).toNat)),.str (s.drop (j+1).toNat)]):=A8 e
def A8b:R1:=⟨[(0,h 0 9),(1,h 1 4),(7,h 2 3)],[],3,[⟨.exit 0,[],[],0⟩,⟨.ret,[(4,h 0 9),(5,h 1 9),(6,.bool true)],[],2⟩]⟩
noncomputable def A3O:Code:=(f56.body).getD .skip
noncomputable def A8W:Code:=match G6 [true,false,true,false] A3O with|some (.loop x)=>x|_=>.skip
def A8a:f56.body=some A3O:=rfl
def A8Y:G6 [true,false,true,false] A3O=some (.loop A8W):=C9
def A8X:Tr:=nM 2 0 3 (.lt 4 (.idx) [h 0 9,h3 2]<|aE [h 5 4,h 1 4]<|.br 6 (.lt 9 (.sub) [h 0 9,jI 0,h3 2]<|aA [h3 2,jI 1]<|.lt 9 (.sub1) [h 0 9,h3 8]<|.ret [jI 1,h 7 9,h 9 9]) (aA [h3 2,jI 1]<|.ret [jI (-1),h 0 9,h 1 4,h3 7])) (I2 0)
def A8Z:List U->Nat
 | [.str s,.int .u8 c,.int .i64 i]=>((s.length:Int)-i).toNat
 | _=>0
def A3N(s:B0)(c:Int)(i:Int):A8Z [.str s,.int .u8 c,.int .i64 i]=((s.length:Int)-i).toNat:=rfl
def B2n{G}(n:K4 G):∀ (E:Nat->U) (base:Nat),@Q1 ⟨E,G⟩ prog base gl f56.ntmps A8W (M1 prog gl n0 16 A8b BD):=by
 refine R4 (dep:=60) (f:=56) (n0:=n0) (nB:=16) (H0:=H0) A8Z A8X (cxg (B3z.2 n) .nil) n func56 A8a A8Y C9 C9 C9 ?_;intro us d outs l;have o:=l;unfold BD at l;split at l
 .skip;rename_i s c i;split at l
  .rename_i m;clear l o;refine⟨rfl,?_⟩;unfold A8X;refine w0 (.cons 2 _ (.cons 1 _ (.cons 0 _ (.nil)))) ?_;repeat (first|refine bW ?_|refine W4 ?_|refine w4 (fun g=>?_) fun g=>?_|refine eG ?_|refine aK ?_|refine w1 (.idx) (e:=uS _ _ _ A2 A2) (k':=?_)|refine eH ?_|refine w1 (.sub) (e:=t6 _ _ _ _ _ A2 A2 A2) (k':=?_)|refine w1 (.sub1) (e:=cU _ _ _ A2 A2) (k':=?_)|(refine w7 [.int .i64 _,.str _,.str _] ?_;rotate_left)|(refine w7 [.int .i64 _,.str _,.int .u8 _,.int .i64 _] ?_;rotate_left)|(refine w7 [.int .i64 _] ?_;rotate_left))
   all_goals first
    | refine M2 ?_ ?_
      .rw[tH s c (i+1) ⟨A2,A2,m.2.2⟩,tH s c i m,W1 (i:=i) m.1 A2 (B2e ‹_›)]
      .rw[A3N,A3N];omega
    | refine H7 (d:=0) ?_
      rw[tH s c i m,Z2 A2];rfl
    | refine H7 (d:=1) ?_
      rw[tH s c i m,Z1 (i:=i) m.1 A2 (B2d ‹_›)];rfl
  .cases l
 .cases l
noncomputable def B4G:List LpE:=(56,([true,false,true,false],M1 prog gl n0 16 A8b BD))::[]
def A3_{G}(e:K4 G):W5 prog G gl B4G:=.cons func56 A8a A8Y (B2n e) .nil
noncomputable def B3V:O9:=⟨_,fun e=>.nil⟩
def oX:List U->Option (Nat×List U)
 | [.str s,.int .u8 c]=>if(s.length:Int)<=1000000000 then some (0,[.str ((H1 c s).1),.str ((H1 c s).2.1),.bool ((H1 c s).2.2)])else none
 | _=>none
def A4h(s:B0)(c:Int)(e:(s.length:Int)<=1000000000):oX [.str s,.int .u8 c]=some (0,[.str ((H1 c s).1),.str ((H1 c s).2.1),.bool ((H1 c s).2.2)]):=A8 e
def A6t:Tr:=.lp BD [h 0 9,h 1 4,jI 0] 0 0 (.ret [.string ⟨⟨[]⟩⟩,.string ⟨⟨[]⟩⟩,.bool false]) (.lp BD [h 0 9,h 1 4,jI 0] 1 2 (.ret [h 2 9,h 3 9,.bool true]) (.no))
def A6u{G}(e:K4 G):L6 prog G 56 [.s 9,.s 4] oX [.s 9,.s 9,.s 8]:=by
 refine F3 (d:=60) A6t (cxg (B3V.2 e) (A3_ e)) e ⟨f56,_,func56,rfl⟩ C9 C9 ?_;intro us outs f;unfold oX at f;split at f
 .skip;rename_i s c;split at f
  .rename_i l;cases f;unfold A6t;refine w0 (.cons 1 _ (.cons 0 _ (.nil))) ?_;repeat (first|(refine w7 [.str _,.str _,.bool _] ?_;rotate_left)|(refine w6 BD (tH _ _ _ ⟨E3,A2,l⟩) (h0:=fun g=>?_) (h1:=fun v g=>?_);skip;rotate_left;show Wk _ _ (.cons _ _ (.cons _ _ _));rotate_right))
   all_goals
    first
    | exact l3c (XZ ‹_›)
    | exact l3c (B0c ‹_›)
  .cases f
 .cases f
def rpB(f:Bool)(s:B0):Bool:=if f=true then decide (psP (sp 10 s))else rok (sp 10 s)
def rpW(f:Bool)(s:B0):Option Unit:=if rpB f s=true then none else some ()
def rpX(f:Bool)(s:B0)(P:Xt):Xt:=if f=true then psX s else P
def rpL(f:Bool)(s:B0)(acc:Option (List Gt)):Option (List Gt):=o9 acc (some (rgs (if f=true then(sp 10 s).tail else sp 10 s)))
def A8K:eqI (10:Int)=eqC 10:=A8M 10
def A8J:eqI (32:Int)=eqC 32:=A8M 32
def IP{s:B0}(h:(H1 10 s).2.2=true):sp 10 s=(H1 10 s).1::sp 10 (H1 10 s).2.1/\(H1 10 s).2.1.length<s.length/\(H1 10 s).1.length<=s.length:=by
 cases e:H8 (eqI 10) s 0 with
 | none=>rw[B0c e]at h;cases h
 | some j =>
   rw[XZ e];rw[A8K]at e;obtain⟨u,v,h1,_,_,f,l⟩:=QW e;refine⟨B02 e,?_,?_⟩
   .show(List.drop _ s).length<_;rw[l,h1,B7,C8];omega
   .show(List.take _ s).length<=_;rw[f,h1,B7];omega
def B2v{s:B0}(h:(H1 10 s).2.2=false):sp 10 s=[s]:=by
 cases e:H8 (eqI 10) s 0 with
 | none=>rw[A8K]at e;exact B03 e
 | some j=>rw[XZ e]at h;cases h
def IH{s:B0}(h:(H1 32 s).2.2=true):∃ j,fx 32 s=some j/\H1 32 s=(s.take j.toNat,s.drop (j+1).toNat,true)/\Q6 s=H1 32 s:=by
 cases e:H8 (eqI 32) s 0 with
 | none=>rw[B0c e]at h;cases h
 | some j =>
   have f:fx 32 s=some j:=by unfold fx;rw[<- A8J];exact e
   exact⟨j,f,XZ e,by rw[RC f,XZ e]⟩
def B0W{s:B0}(h:(H1 32 s).2.2=false):fx 32 s=none:=by
 cases e:H8 (eqI 32) s 0 with
 | none=>unfold fx;rw[<- A8J];exact e
 | some j=>rw[XZ e]at h;cases h
def II(s:B0):(H1 c s).1.length<=s.length/\(H1 c s).2.1.length<=s.length:=by
 unfold H1;split
 .refine⟨?_,?_⟩
  .show(List.take _ s).length<=_;rw[H3];omega
  .show(List.drop _ s).length<=_;rw[D7];omega
 .exact⟨dJ _,dJ _⟩
def A6e(s:B0):rpB true s=decide (psP (sp 10 s)):=rfl
def SL(s:B0):rpB false s=rok (sp 10 s):=rfl
def B1N{p:Prop}[Decidable p](h:¬(true≠decide p)):p:=G5 (B5.1 h).symm
def B4s{p:Prop}[Decidable p](h:true≠decide p):¬p:=fun k=>h (H5 k).symm
def B4q{p:Prop}[Decidable p](h:false≠decide p):p:=by
 by_cases k:p
 .exact k
 .exact absurd (D4 k).symm h
def B4l(acc:Option (List Gt)):rpL false [] acc=acc:=IQ acc
def B4m{A:B0}(h:aO A≠0):aO A=6:=(B1u A).resolve_left h
def A0G{s:B0}(h:¬psP (sp 10 s)):rpW true s=some ():=A6 (by rw[A6e,D4 h];decide)
def B05{s:B0}(h:rok (sp 10 s)=false):rpW false s=some ():=A6 (by rw[SL,h];decide)
def B4e{s:B0}(h:(H1 10 s).2.2=false):rpW true s=some ():=A0G fun k=>by
 have k:=k.2;rw[B2v h]at k;cases k
def B4d{s:B0}(h:(H1 10 s).2.2=true)(e:(H1 32 (H1 10 s).1).2.2=false):rpW true s=some ():=A0G fun k=>by
 have k:=k.1;rw[(IP h).1]at k;exact B5S (B0W e) k
def B4c{s:B0}(h:(H1 10 s).2.2=true)(f:(H1 32 (H1 10 s).1).2.2=true)(h3:(H1 32 (H1 10 s).1).1≠[112,114,101,102,105,120]):rpW true s=some ():=A0G fun k=>by
 have k:=k.1;rw[(IP h).1]at k;obtain⟨j,e,l,_⟩:=IH f;rw[l]at h3;exact B5R e h3 k
def B4b{s:B0}(h:(H1 10 s).2.2=true)(l:(H1 32 (H1 10 s).1).2.2=true)(h3:(H1 32 (H1 10 s).1).1=[112,114,101,102,105,120])(e:aO (H1 32 (H1 10 s).1).2.1≠0):rpW true s=some ():=A0G fun k=>by
 have k:=k.1;rw[(IP h).1]at k;obtain⟨j,f,m,_⟩:=IH l;rw[m]at h3 e;exact e ((B2J f h3).1.1 k)
def B4a{s:B0}{P:Xt}(h:(H1 10 s).2.2=true)(o:(H1 32 (H1 10 s).1).2.2=true)(h3:(H1 32 (H1 10 s).1).1=[112,114,101,102,105,120])(p:aO (H1 32 (H1 10 s).1).2.1=0):rpW true s=rpW false (H1 10 s).2.1/\rpX true s P=rpX false (H1 10 s).2.1 (X1 (H1 32 (H1 10 s).1).2.1)/\rpL true s acc=rpL false (H1 10 s).2.1 acc:=by
 obtain⟨j,n,l,_⟩:=IH o;have e:=(IP h).1;have m:(H1 32 (H1 10 s).1).2.1=(H1 10 s).1.drop (j+1).toNat:=by rw[l]
 rw[l]at h3;have f:=B2J n h3;refine⟨?_,?_,?_⟩
 .unfold rpW;rw[A6e,SL,e];have:psP ((H1 10 s).1::sp 10 (H1 10 s).2.1)↔rok (sp 10 (H1 10 s).2.1)=true:=⟨fun k=>k.2,fun k=>⟨f.1.2 (by rw[<- m];exact p),k⟩⟩;by_cases hr:rok (sp 10 (H1 10 s).2.1)=true
  .rw[A8 hr,A8 (H5 (this.2 hr))]
  .rw[A6 hr,A6 fun k=>hr (this.1 (G5 k))]
 .unfold rpX psX;rw[A8 rfl,A6 E3,e,m];show X1 ((H1 10 s).1.drop 7)=_;rw[f.2]
 .unfold rpL;rw[A8 rfl,A6 E3,e];rfl
def B4p{s:B0}(h:(H1 10 s).2.2=false)(h0:s≠[]):rpW false s=some ():=B05 (by
 rw[B2v h];exact D4 h0)
def A9T{s:B0}(h:(H1 10 s).2.2=true)(e:¬lnP (H1 10 s).1):rpW false s=some ():=B05 (by
 rw[(IP h).1,A0n (ZQ _ _),HD e];rfl)
def B4o{s:B0}(h:(H1 10 s).2.2=true)(e:(H1 32 (H1 10 s).1).2.2=false):rpW false s=some ():=A9T h (B5I (B0W e))
def B1G{s:B0}(h:(H1 10 s).2.2=true)(f:(H1 32 (H1 10 s).1).2.2=true)(h3:(H1 32 (H1 10 s).1).1≠[98,105,110,100]):rpW false s=some ():=A9T h (by
 obtain⟨j,e,l,_⟩:=IH f;rw[l]at h3;exact B5H e h3)
def B1F{s:B0}(h:(H1 10 s).2.2=true)(e:(H1 32 (H1 10 s).1).2.2=true)(h3:(H1 32 (H1 10 s).1).1=[112,114,101,102,105,120]):rpW false s=some ():=B1G h e (by rw[h3];decide)
def A9U{s:B0}(h:(H1 10 s).2.2=true)(l:(H1 32 (H1 10 s).1).2.2=true)(h3:(H1 32 (H1 10 s).1).1=[98,105,110,100])(e:¬bnP (H1 32 (H1 10 s).1).2.1):rpW false s=some ():=A9T h (by
 obtain⟨j,f,m,_⟩:=IH l;rw[m]at h3 e;exact fun k=>e ((B1i f h3).1.1 k))
def B4n{s:B0}{P:Xt}(h:(H1 10 s).2.2=true)(o:(H1 32 (H1 10 s).1).2.2=true)(h3:(H1 32 (H1 10 s).1).1=[98,105,110,100])(q:bnP (H1 32 (H1 10 s).1).2.1)(p:a'=o9 acc (some [bnG (H1 32 (H1 10 s).1).2.1])):rpW false s=rpW false (H1 10 s).2.1/\rpX false s P=rpX false (H1 10 s).2.1 P/\rpL false s acc=rpL false (H1 10 s).2.1 a':=by
 subst p;obtain⟨j,n,f,_⟩:=IH o;have m:=(IP h).1;have l:(H1 32 (H1 10 s).1).2.1=(H1 10 s).1.drop (j+1).toNat:=by rw[f]
 rw[f]at h3;have e:=B1i n h3;refine⟨?_,rfl,?_⟩
 .unfold rpW;rw[SL,SL,m,A0n (ZQ _ _),QN (e.1.2 (by rw[<- l];exact q))];rfl
 .unfold rpL;rw[A6 E3,A6 E3,m,B1D (ZQ _ _),uY,e.2,l];rfl
def B5w{S A:B0}{R:Bool}(h:bnR S=R/\bnA S=A)(e:(H1 32 A).2.2=false):¬bnP S:=fun k=>by
 have k:=k.1;rw[h.2,A3L (B0W e)]at k;cases k
def B5x{S A:B0}{R:Bool}(h:bnR S=R/\bnA S=A)(f:(H1 32 A).2.2=true)(h3:aO (H1 32 A).1≠0):¬bnP S:=fun k=>by
 obtain⟨j,_,_,e⟩:=IH f;have k:=k.2.1;rw[h.2,e]at k;exact h3 k
def B5y{S A:B0}{R:Bool}(h:bnR S=R/\bnA S=A)(f:(H1 32 A).2.2=true)(h3:(H1 32 A).2.1=[]):¬bnP S:=fun k=>by
 obtain⟨j,_,_,e⟩:=IH f;have k:=k.2.2;rw[h.2,e]at k;exact k h3
def B5v{S A:B0}{R:Bool}(h:bnR S=R/\bnA S=A)(f:(H1 32 A).2.2=true)(h3:aO (H1 32 A).1=0)(l:(H1 32 A).2.1≠[]):bnP S/\bnG S=mkG (X1 (H1 32 A).1) (H1 32 A).2.1 R:=by
 obtain⟨j,_,_,e⟩:=IH f;unfold bnP bnG;rw[h.2,e,h.1];exact⟨⟨f,h3,l⟩,rfl⟩
def A5p{s:B0}(h:¬3<(s.length:Int)):bnR s=false/\bnA s=s:=by
 have e:bnR s=false:=D4 fun k=>h (by have:=k.2;omega)
 exact⟨e,by unfold bnA;rw[e,A6 E3]⟩
def NW{s:B0}(h:3<(s.length:Int))(f:List.take ((3:Int).toNat-(0:Int).toNat) (List.drop (0:Int).toNat s)=[45,114,32]):bnR s=true/\bnA s=List.drop (3:Int).toNat s:=by
 have e:bnR s=true:=H5 ⟨f,A2⟩;exact⟨e,by unfold bnA;rw[e,A8 rfl];rfl⟩
def B4Z:rpW false []=none:=rfl
def B4Y(P:Xt):rpX false [] P=P:=rfl
attribute [local irreducible] X1 aO H1 bnP bnR bnA rpB rpX rpL
noncomputable def B3L:O9:=⟨_,fun e=>(.cons (A6u e) (.cons (A00 e) (.cons (KO e) .nil)))⟩
def oT:List U->Option (Nat×List U)
 | [.str s,.bool f,.int .i64 p1,.int .i64 p2,.int .i64 p3,.int .i64 p4,.int .i64 p5,.int .i64 p6,.int .i64 p7,.str p8,u_acc]=>(P4 rG u_acc).bind fun acc=>if(s.length:Int)<=16384/\((el acc).length:Int)+(s.length:Int)<=20000 then R9 (rpW f s) [.int .i64 (rpX f s (p1,p2,p3,p4,p5,p6,p7,p8)).1,.int .i64 (rpX f s (p1,p2,p3,p4,p5,p6,p7,p8)).2.1,.int .i64 (rpX f s (p1,p2,p3,p4,p5,p6,p7,p8)).2.2.1,.int .i64 (rpX f s (p1,p2,p3,p4,p5,p6,p7,p8)).2.2.2.1,.int .i64 (rpX f s (p1,p2,p3,p4,p5,p6,p7,p8)).2.2.2.2.1,.int .i64 (rpX f s (p1,p2,p3,p4,p5,p6,p7,p8)).2.2.2.2.2.1,.int .i64 (rpX f s (p1,p2,p3,p4,p5,p6,p7,p8)).2.2.2.2.2.2.1,.str (rpX f s (p1,p2,p3,p4,p5,p6,p7,p8)).2.2.2.2.2.2.2,E8 rG (rpL f s acc)] (fun _=>[.int .i64 6])else none
 | _=>none
def nR(s:B0)(f:Bool)(p:Int)(n:Int)(e:Int)(m:Int)(q:Int)(o:Int)(l:Int)(p8:B0)(acc:(Option (List (Int×Int×Int×Int×Int×Int×Int×B0×B0×Bool))))(u:(s.length:Int)<=16384/\((el acc).length:Int)+(s.length:Int)<=20000):oT [.str s,.bool f,.int .i64 p,.int .i64 n,.int .i64 e,.int .i64 m,.int .i64 q,.int .i64 o,.int .i64 l,.str p8,E8 rG acc]=R9 (rpW f s) [.int .i64 (rpX f s (p,n,e,m,q,o,l,p8)).1,.int .i64 (rpX f s (p,n,e,m,q,o,l,p8)).2.1,.int .i64 (rpX f s (p,n,e,m,q,o,l,p8)).2.2.1,.int .i64 (rpX f s (p,n,e,m,q,o,l,p8)).2.2.2.1,.int .i64 (rpX f s (p,n,e,m,q,o,l,p8)).2.2.2.2.1,.int .i64 (rpX f s (p,n,e,m,q,o,l,p8)).2.2.2.2.2.1,.int .i64 (rpX f s (p,n,e,m,q,o,l,p8)).2.2.2.2.2.2.1,.str (rpX f s (p,n,e,m,q,o,l,p8)).2.2.2.2.2.2.2,E8 rG (rpL f s acc)] (fun _=>[.int .i64 6]):=by
 simp only[oT,I0,F1];exact A8 u
def A0g{s e:B0}{f:Bool}{q o l n u p m:Int}{X:Xt}(w:(s.length:Int)<=16384/\((el acc).length:Int)+(s.length:Int)<=20000)(h1:e.length<s.length)(A:(el a').length<=(el acc).length+1)(h:rpW f s=rpW false e/\rpX f s (q,o,l,n,u,p,m,p8)=rpX false e X/\rpL f s acc=rpL false e a'):oT [.str e,.bool false,.int .i64 X.1,.int .i64 X.2.1,.int .i64 X.2.2.1,.int .i64 X.2.2.2.1,.int .i64 X.2.2.2.2.1,.int .i64 X.2.2.2.2.2.1,.int .i64 X.2.2.2.2.2.2.1,.str X.2.2.2.2.2.2.2,E8 rG a']=oT [.str s,.bool f,.int .i64 q,.int .i64 o,.int .i64 l,.int .i64 n,.int .i64 u,.int .i64 p,.int .i64 m,.str p8,E8 rG acc]:=by
 rw[nR e false X.1 X.2.1 X.2.2.1 X.2.2.2.1 X.2.2.2.2.1 X.2.2.2.2.2.1 X.2.2.2.2.2.2.1 X.2.2.2.2.2.2.2 a' ⟨A2,A2⟩,nR s f q o l n u p m p8 acc w,h.1,h.2.1,h.2.2]
def A6b:R1:=⟨[(0,h 0 9),(2,.pointer (some ⟨16,0,none⟩)),(4,.pointer (some ⟨17,0,none⟩)),(5,h 1 8)],[(16,.cells 35 [.int .i64 (0),.int .i64 (0),.int .i64 (0),.int .i64 (0),.int .i64 (0),.int .i64 (0),.int .i64 (0),.string ⟨⟨[]⟩⟩,.slice none 0 0]),(17,.cells 35 [h 2 3,h 3 3,h 4 3,h 5 3,h 6 3,h 7 3,h 8 3,h 9 9,own 18 10 20]),(18,.sq 10 20 32 19),(19,.frz)],11,[⟨.exit 0,[(2,.pointer (some ⟨16,0,none⟩)),(4,.pointer (some ⟨17,0,none⟩))],[(16,.cells 35 [.int .i64 (0),.int .i64 (0),.int .i64 (0),.int .i64 (0),.int .i64 (0),.int .i64 (0),.int .i64 (0),.string ⟨⟨[]⟩⟩,.slice none 0 0]),(17,.cells 35 [h 0 3,h 1 3,h 2 3,h 3 3,h 4 3,h 5 3,h 6 3,h 7 9,own 20 8 20]),(20,.sq 8 20 32 21),(21,.frz)],9⟩,⟨.ret,[(2,.pointer (some ⟨16,0,none⟩)),(3,h 0 3)],[(16,.cells 35 [.int .i64 (0),.int .i64 (0),.int .i64 (0),.int .i64 (0),.int .i64 (0),.int .i64 (0),.int .i64 (0),.string ⟨⟨[]⟩⟩,.slice none 0 0])],1⟩]⟩
noncomputable def A0f:Code:=(f24.body).getD .skip
noncomputable def A6X:Code:=match G6 [true,true,true,false,true,false] A0f with|some (.loop x)=>x|_=>.skip
def A6a:f24.body=some A0f:=rfl
def A6Z:G6 [true,true,true,false,true,false] A0f=some (.loop A6X):=C9
def A0c(n:Nat):Tr:=.fn pL [h 15 9] 9<|u5 (n+8) (n+9) 0 (.ret [jI 1,h3 (n+8)]) (.ret [jI (-1),h 12 9,.bool false,h3 n,h3 (n+1),h3 (n+2),h3 (n+3),h3 (n+4),h3 (n+5),h3 (n+6),h (n+7) 9,h 10 20])
def A0b(n:Nat):Tr:=.fn oX [h 16 9,.int .u8 (32)] 3<|.fn pL [h n 9] 9<|L2 (n+2) (n+12) (.ret [jI 1,jI 6]) (u5 (n+11) (n+13) 0 (.ret [jI 1,jI 6]) (aE [h (n+1) 9,.string ⟨⟨[]⟩⟩]<|.br (n+14) (.ret [jI 1,jI 6]) (.dt 20 (.snoc 10) [h 10 20,h3 (n+3),h3 (n+4),h3 (n+5),h3 (n+6),h3 (n+7),h3 (n+8),h3 (n+9),h (n+10) 9,h (n+1) 9,.bool false]<|.ret [jI (-1),h 13 9,.bool false,h3 2,h3 3,h3 4,h3 5,h3 6,h3 7,h3 8,h 9 9,h (n+15) 20])))
def A0a(n:Nat):Tr:=r9 16 n 3 (.lt 9 (.sub) [h 16 9,jI 0,jI 3]<|aE [h (n+2) 9,.string ⟨⟨[45,114,32]⟩⟩]<|.br (n+3) (.lt 9 (.sub1) [h 16 9,jI 3]<|.fn oX [h (n+4) 9,.int .u8 (32)] 3<|.fn pL [h (n+5) 9] 9<|L2 (n+7) (n+17) (.ret [jI 1,jI 6]) (u5 (n+16) (n+18) 0 (.ret [jI 1,jI 6]) (aE [h (n+6) 9,.string ⟨⟨[]⟩⟩]<|.br (n+19) (.ret [jI 1,jI 6]) (.dt 20 (.snoc 10) [h 10 20,h3 (n+8),h3 (n+9),h3 (n+10),h3 (n+11),h3 (n+12),h3 (n+13),h3 (n+14),h (n+15) 9,h (n+6) 9,.bool true]<|.ret [jI (-1),h 13 9,.bool false,h3 2,h3 3,h3 4,h3 5,h3 6,h3 7,h3 8,h 9 9,h (n+20) 20])))) (A0b (n+4))) (A0b (n+2))
def A6Y:Tr:=.br 1 (.fn oX [h 0 9,.int .u8 (10)] 3<|.fn oX [h 11 9,.int .u8 (32)] 3<|L2 13 17 (.ret [jI 1,jI 6]) (L2 16 18 (.ret [jI 1,jI 6]) (aE [h 14 9,.string ⟨⟨[112,114,101,102,105,120]⟩⟩]<|aN [h 1 8,h 19 8]<|.br 20 (.ret [jI 1,jI 6]) (L2 1 21 (aN [h 14 9,.string ⟨⟨[98,105,110,100]⟩⟩]<|.br 22 (.ret [jI 1,jI 6]) (A0c 23)) (A0c 22))))) (aN [h 0 9,.string ⟨⟨[]⟩⟩]<|.br 11 (.fn oX [h 0 9,.int .u8 (10)] 3<|.fn oX [h 12 9,.int .u8 (32)] 3<|L2 14 18 (.ret [jI 1,jI 6]) (L2 17 19 (.ret [jI 1,jI 6]) (aE [h 15 9,.string ⟨⟨[112,114,101,102,105,120]⟩⟩]<|aN [h 1 8,h 20 8]<|.br 21 (.ret [jI 1,jI 6]) (L2 1 22 (aN [h 15 9,.string ⟨⟨[98,105,110,100]⟩⟩]<|.br 23 (.ret [jI 1,jI 6]) (A0a 24)) (A0a 23))))) (xM 2))
def A0e:List U->Nat
 | [.str s,.bool f,.int .i64 p1,.int .i64 p2,.int .i64 p3,.int .i64 p4,.int .i64 p5,.int .i64 p6,.int .i64 p7,.str p8,u_acc]=>(match P4 rG u_acc with|some acc=>s.length|none=>0)
 | _=>0
def A0d(s:B0)(f:Bool)(p:Int)(n:Int)(e:Int)(m:Int)(q:Int)(o:Int)(l:Int)(p8:B0)(acc:(Option (List (Int×Int×Int×Int×Int×Int×Int×B0×B0×Bool)))):A0e [.str s,.bool f,.int .i64 p,.int .i64 n,.int .i64 e,.int .i64 m,.int .i64 q,.int .i64 o,.int .i64 l,.str p8,E8 rG acc]=s.length:=by
 simp only[A0e,I0]
def B09{G}(o:K4 G):∀ (E:Nat->U) (base:Nat),@Q1 ⟨E,G⟩ prog base gl f24.ntmps A6X (M1 prog gl n0 22 A6b oT):=by
 refine R4 (dep:=60) (f:=24) (n0:=n0) (nB:=22) (H0:=H0) A0e A6Y (cxg (B3L.2 o) .nil) o func24 A6a A6Z C9 C9 C9 ?_;intro us d outs m;have q:=m;unfold oT at m;split at m
 .skip;rename_i s f I D A C h H F p8 u;have n:=C3.1 m;clear m;obtain⟨acc,l,m⟩:=n;replace l:=L1 l;subst l;split at m
  .rename_i p;clear m q;have K:=II (c:=10) s;have z2:=II (c:=32) (H1 10 s).1;have z3:=II (c:=32) (H1 32 (H1 10 s).1).2.1;have z4:=II (c:=32) (List.drop (3:Int).toNat (H1 32 (H1 10 s).1).2.1);rw[D7]at z4;refine⟨rfl,?_⟩;unfold A6Y;refine w0 (.cons 10 _ (.cons 9 _ (.cons 8 _ (.cons 7 _ (.cons 6 _ (.cons 5 _ (.cons 4 _ (.cons 3 _ (.cons 2 _ (.cons 1 _ (.cons 0 _ (.nil)))))))))))) ?_;repeat (first|refine w4 (fun g=>?_) fun g=>?_|refine w4B (fun g=>?_) fun g=>?_|(refine w7 [.int .i64 _,.int .i64 _] ?_;rotate_left)|refine Z5 ?_|refine lF ?_|(refine w3 oX (e:=A4h _ _ (by first|omega|(rw[D7];omega))) (k':=?_);show Wk _ _ (.cons _ _ (.cons _ _ (.cons _ _ _))))|refine yK ?_|(refine w3 pL (e:=A0z _ A2) (k':=?_);show Wk _ _ (.cons _ _ (.cons _ _ (.cons _ _ (.cons _ _ (.cons _ _ (.cons _ _ (.cons _ _ (.cons _ _ (.cons _ _ _))))))))))|refine wT ?_|(refine w7 [.int .i64 _,.str _,.bool _,.int .i64 _,.int .i64 _,.int .i64 _,.int .i64 _,.int .i64 _,.int .i64 _,.int .i64 _,.str _,E8 rG _] ?_;rotate_left)|refine w2 (.snoc 10) (r:=rG) (e:=mR (a:=mkG (X1 (H1 32 (H1 32 (H1 10 s).1).2.1).1) (H1 32 (H1 32 (H1 10 s).1).2.1).2.1 false) rfl rfl E3 A2) (k':=?_)|refine OP ?_|refine B4M ?_|refine eG ?_|refine oM ?_|refine w1 (.sub) (e:=t6 _ _ _ _ _ A2 A2 A2) (k':=?_)|refine w1 (.sub1) (e:=cU _ _ _ A2 A2) (k':=?_)|refine w2 (.snoc 10) (r:=rG) (e:=mR (a:=mkG (X1 (H1 32 (List.drop (3:Int).toNat (H1 32 (H1 10 s).1).2.1)).1) (H1 32 (List.drop (3:Int).toNat (H1 32 (H1 10 s).1).2.1)).2.1 true) rfl rfl E3 A2) (k':=?_)|(refine w7 [.int .i64 _,.int .i64 _,.int .i64 _,.int .i64 _,.int .i64 _,.int .i64 _,.int .i64 _,.int .i64 _,.str _,E8 rG _] ?_;rotate_left))
   all_goals first
    | refine M2 ?_ ?_
      .cases f<;>first
       | exact absurd (by assumption:(!true)=true) E3
       | exact absurd (by assumption:(!false)=false) E3
       | exact absurd (by assumption:true=false) E3
       | exact absurd (by assumption:false=true) E3
       | exact A0g p (IP (aR ‹_›)).2.1 (V4 _) (B4a (aR ‹_›) (aR ‹_›) (B1N ‹_›) (B5.1 ‹_›))
       | (have B:=B5v (S:=(H1 32 (H1 10 s).1).2.1) (by first|exact A5p ‹_›|exact CU ‹_›|exact CU (B5.1 ‹_›)|exact NW ‹_› ‹_›|exact NW ‹_› (B5.1 ‹_›)) (aR ‹_›) (B5.1 ‹_›) ‹_›
          refine A0g p (IP (aR ‹_›)).2.1 ?_ (B4n (aR ‹_›) (aR ‹_›) (B5.1 ‹_›) B.1 (by rw[B.2];rfl));rw[O5,B7];exact A7 _)
      .rw[A0d,A0d];have J:(H1 10 s).2.2=true:=aR ‹_›
       have:=(IP J).2.1;omega
    | refine H7 (d:=0) ?_
      have m:s=[]:=B5.1 ‹_›;subst m;cases f
      .rw[nR _ _ _ _ _ _ _ _ _ _ _ p,B4Z,B4l,B4Y];rfl
      .exact absurd (by assumption:true=false) E3
    | refine H7 (d:=1) ?_
      have w:rpW f s=some ():=by
       cases f<;>first
       | exact absurd (by assumption:(!true)=true) E3
       | exact absurd (by assumption:(!false)=false) E3
       | exact absurd (by assumption:true=false) E3
       | exact absurd (by assumption:false=true) E3
       | exact B4e (JB ‹_›)
       | exact B4d (aR ‹_›) (JB ‹_›)
       | exact B4c (aR ‹_›) (aR ‹_›) (B4s ‹_›)
       | exact B4b (aR ‹_›) (aR ‹_›) (B1N ‹_›) ‹_›
       | exact B4p (JB ‹_›) ‹_›
       | exact B4o (aR ‹_›) (JB ‹_›)
       | exact B1F (aR ‹_›) (aR ‹_›) (B4q ‹_›)
       | exact B1G (aR ‹_›) (aR ‹_›) ‹_›
       | exact A9U (aR ‹_›) (aR ‹_›) (B5.1 ‹_›) (B5w (by first|exact A5p ‹_›|exact CU ‹_›|exact CU (B5.1 ‹_›)|exact NW ‹_› ‹_›|exact NW ‹_› (B5.1 ‹_›)) (JB ‹_›))
       | exact A9U (aR ‹_›) (aR ‹_›) (B5.1 ‹_›) (B5x (by first|exact A5p ‹_›|exact CU ‹_›|exact CU (B5.1 ‹_›)|exact NW ‹_› ‹_›|exact NW ‹_› (B5.1 ‹_›)) (aR ‹_›) ‹_›)
       | exact A9U (aR ‹_›) (aR ‹_›) (B5.1 ‹_›) (B5y (by first|exact A5p ‹_›|exact CU ‹_›|exact CU (B5.1 ‹_›)|exact NW ‹_› ‹_›|exact NW ‹_› (B5.1 ‹_›)) (aR ‹_›) ‹_›)
      first
      | (rw[nR s f I D A C h H F p8 acc p,w];rfl)
      | (rw[nR s f I D A C h H F p8 acc p,w,B4m ‹_›];rfl)
  .cases m
 .cases m
noncomputable def B39:List LpE:=(24,([true,true,true,false,true,false],M1 prog gl n0 22 A6b oT))::[]
def A30{G}(e:K4 G):W5 prog G gl B39:=.cons func24 A6a A6Z (B09 e) .nil
end
section
open Go Go.Sx Go.Proofs.Tryz
def B1R{s:B0}(h:¬16384<(s.length:Int)):((el (psL s)).length:Int)<=140737488351232/\∀ g ∈ el (psL s),gOk g:=by
 have h1:=A4O h;unfold psL rgs;rw[bH];show(((List.map lnG (sp 10 s).tail.dropLast).length:Nat):Int)<=_/\∀ g ∈ List.map lnG (sp 10 s).tail.dropLast,gOk g;refine⟨?_,fun g e=>?_⟩
 .rw[E7,List.length_dropLast,List.length_tail];omega
 .obtain⟨x,hx,rfl⟩:=I6.1 e
  have:=PE (List.mem_of_mem_tail (List.dropLast_subset _ hx));exact A1y A2
def B4f{s:B0}{u:Unit}(h:rpW true s=some u):¬psP (sp 10 s):=fun k=>by
 have e:rpW true s=none:=A8 (H5 k);rw[e]at h;cases h
def B1C{s:B0}(h:rpW true s=none):psP (sp 10 s):=by
 by_cases k:psP (sp 10 s)
 .exact k
 .rw[A0G k]at h;cases h
def B4g{s:B0}{P:Xt}(h:¬16384<(s.length:Int)) : -9223372036854775808<=(rpX true s P).2.2.1/\(rpX true s P).2.2.1<=9223372036854775807/\((rpX true s P).2.2.2.2.2.2.2.length:Int)<=140737488351232/\((el (rpL true s none)).length:Int)<=140737488351232/\(∀ g ∈ el (rpL true s none),gOk g):=by
 have h1:=A90 (((sp 10 s).headD []).drop 7);have e:=B1R h;exact⟨h1.1,h1.2.1,h1.2.2,e.1,e.2⟩
noncomputable def B3M:O9:=⟨_,fun e=>(.cons (A6u e) (.cons (A00 e) (.cons (KO e) .nil)))⟩
def KK:List U->Option (Nat×List U)
 | [.str s]=>if(s.length:Int)<=140737488351232 then some (0,[.int .i64 ((prX s).1),.int .i64 ((prX s).2.1),.int .i64 ((prX s).2.2.1),.int .i64 ((prX s).2.2.2.1),.int .i64 ((prX s).2.2.2.2.1),.int .i64 ((prX s).2.2.2.2.2.1),.int .i64 ((prX s).2.2.2.2.2.2.1),.str ((prX s).2.2.2.2.2.2.2),E8 rG (prL s),.int .i64 (prE s)])else none
 | _=>none
def A4a(s:B0)(e:(s.length:Int)<=140737488351232):KK [.str s]=some (0,[.int .i64 ((prX s).1),.int .i64 ((prX s).2.1),.int .i64 ((prX s).2.2.1),.int .i64 ((prX s).2.2.2.1),.int .i64 ((prX s).2.2.2.2.1),.int .i64 ((prX s).2.2.2.2.2.1),.int .i64 ((prX s).2.2.2.2.2.2.1),.str ((prX s).2.2.2.2.2.2.2),E8 rG (prL s),.int .i64 (prE s)]):=A8 e
def A6c:Tr:=r9 0 1 16384 (xF 3 3) (.dt 20 (.nilw 10) []<|.lp oT [h 0 9,.bool true,jI 0,jI 0,jI 0,jI 0,jI 0,jI 0,jI 0,.string ⟨⟨[]⟩⟩,h 3 20] 0 9 (.fn vR [h3 4,h3 5,h3 6,h3 7,h3 8,h3 9,h3 10,h 11 9,h 12 20] 1<|L2 13 14 (xF 15 490) (.ret [h3 4,h3 5,h3 6,h3 7,h3 8,h3 9,h3 10,h 11 9,h 12 20,jI 0])) (.lp oT [h 0 9,.bool true,jI 0,jI 0,jI 0,jI 0,jI 0,jI 0,jI 0,.string ⟨⟨[]⟩⟩,h 3 20] 1 1 (.dt 20 (.nilw 10) []<|.ret [jI 0,jI 0,jI 0,jI 0,jI 0,jI 0,jI 0,.string ⟨⟨[]⟩⟩,h 5 20,h3 4]) (.no)))
def B1A{G}(f:K4 G):L6 prog G 24 [.s 9] KK [.a [3,3,3,3,3,3,3,9,20],.s 3]:=by
 refine F3 (d:=60) A6c (cxg (B3M.2 f) (A30 f)) f ⟨f24,_,func24,rfl⟩ C9 C9 ?_;intro us outs l;unfold KK at l;split at l
 .skip;rename_i s;split at l
  .rename_i n;cases l;unfold A6c;refine w0 (.cons 0 _ (.nil)) ?_;repeat (first|refine w2 (.nilw 10) (r:=rG) (e:=tD rfl) (k':=?_)|(refine w7 [.int .i64 _,.int .i64 _,.int .i64 _,.int .i64 _,.int .i64 _,.int .i64 _,.int .i64 _,.str _,E8 rG _,.int .i64 _] ?_;rotate_left)|refine w4 (fun g=>?_) fun g=>?_|refine w4B (fun g=>?_) fun g=>?_|refine Z5 ?_|refine lF ?_|refine eG ?_|refine oM ?_|(refine w6 oT (nR s true 0 0 0 0 0 0 0 [] none ⟨A2,by show(0:Int)+_<=_;omega⟩) (h0:=fun g=>?_) (h1:=fun v g=>?_);show Wk _ _ (.cons _ _ (.cons _ _ (.cons _ _ (.cons _ _ (.cons _ _ (.cons _ _ (.cons _ _ (.cons _ _ (.cons _ _ _)))))))));rotate_left;show Wk _ _ (.cons _ _ _);rotate_right)|refine w31 vR (e:=SU _ _ _ _ _ _ _ _ _ (B4g ‹_›)) (k':=?_))
   all_goals
    first
    | exact AE (A9b A2) E3
    | exact AE (PU A2 (B4f ‹_›)) E3
    | (have hp:=B1C (s:=s) ‹_›
       have m:¬kmP (psX s) (el (psL s)):=‹_›;exact AE ((A4n A2 hp).trans (jV m)) E3)
    | (have hp:=B1C (s:=s) ‹_›
       have m:kmP (psX s) (el (psL s)):=B5.1 ‹_›;have h0:prE s=0:=(A4n A2 hp).trans (AX m);exact A9w (PT h0).1 (PT h0).2 h0)
  .cases l
 .cases l
noncomputable def B3y:O9:=⟨_,fun e=>(.cons (A1K e) (.cons (A2L e) .nil))⟩
def A8V:List U->Option (Nat×List U)
 | []=>some (0,[.int .i64 (1),.int .i64 (98),.int .i64 (4),.int .i64 (0),.int .i64 (0),.int .i64 (0),.int .i64 (0),.str ([]),E8 rG (some B5e)])
 | _=>none
def B2j{G}(e:K4 G):L6 prog G 30 [] A8V [.a [3,3,3,3,3,3,3,9,20]]:=by
 refine hP (d:=60) (cxg (B3y.2 e) .nil) e ⟨f30,_,func30,rfl⟩ ?_;intro us outs f;unfold A8V at f;split at f
 .cases f;exact⟨[],by kernel_rfl⟩
 .cases f
noncomputable def B3C:O9:=⟨_,fun e=>(.cons (B2j e) (.cons (B1n e) (.cons (B4H e) (.cons (TH e) (.cons (A1K e) (.cons (A0t e) .nil))))))⟩
def DA:List U->Option (Nat×List U)
 | []=>some (0,[.bool (true)])
 | _=>none
def A4C :DA []=some (0,[.bool (true)]):=rfl
def B0o{G}(e:K4 G):L6 prog G 16 [] DA [.s 8]:=by
 refine hP (d:=60) (cxg (B3C.2 e) .nil) e ⟨f16,_,func16,rfl⟩ ?_;intro us outs f;unfold DA at f;split at f
 .cases f;exact⟨[1,1,1,1,1,1,1,1,1,1,1,1,1,1,1,1,1,1,1,1,1,1,1,1,1,1,1,1,1,1,1,1,1,1,1,1,1,1,1,1,1,1,1,1,1,1,1,1,1,1,1,1,1,1,1,1,1,1,1,1,1,0,0,0,0,0,0,1,1,1,1],by kernel_rfl⟩
 .cases f
def B1v:aM 97 0:=.inl ⟨E3,.inl rfl⟩
def B2k(c m:Int):aM (dC3 c m) (dM c m):=by
 unfold dC3 dM;by_cases h1:aM c (m%8)
 .rw[A8 (.inl h1),A8 h1];exact h1
 .by_cases e:aM c (m%8 / 2%4*2)
  .rw[A8 (.inr (.inl e)),A6 h1,A8 e];exact e
  .by_cases h3:aM c (m / 2%2*2)
   .rw[A8 (.inr (.inr (.inl h3))),A6 h1,A6 e,A8 h3];exact h3
   .rw[A6 h1,A6 e,A6 h3];by_cases f:aM c 0
    .rw[A8 (.inr (.inr (.inr f)))];exact f
    .rw[A6 (fun q=>q.elim h1 fun q=>q.elim e fun q=>q.elim h3 f)];exact B1v
def A9o(s:B0):(nE s).any isE=false:=by
 rw[Z9];intro x hx;unfold nE at hx
 have:=(P9.1 hx).2;intro h;rw[h]at this;cases this
def B2i{q d1 d2 d3 d4 d5 d6 dc:Int}(e:q=0∨q=1∨q=2∨q=3):Y3 (diK q) (diC q d3 d4 dc) (diM q d3 d4 dc) (diW q d1) (diB q d1 d2 d3 d5 d6) (diR q d5) (diL q d6) (diT q t):=by
 rcases e with rfl|rfl|rfl|rfl
 .exact .inl ⟨rfl,rfl,rfl,rfl,rfl,rfl,B2k _ _⟩
 .refine .inr (.inl ⟨rfl,rfl,rfl,?_⟩);show msP (d3%8) (d1%4) (if Y3 2 0 (d3%8) (d1%4) (d2%4) (d5%40) (d6%80) []then d2%4 else d2%4%2) (d5%40) (d6%80);split
  .rename_i h;rcases h with h|h|h|h
   .exact absurd h.1 E3
   .exact h.2.2.2
   .exact absurd h.1 E3
   .exact absurd h.1 E3
  .unfold msP;omega
 .refine .inr (.inr (.inl ⟨rfl,rfl,rfl,rfl,rfl,rfl,rfl,?_,A9o _⟩))
  have:=A9m (t.take 1000);rw[H3]at this;show(nE (t.take 1000)).length<=1000;omega
 .exact .inr (.inr (.inr ⟨rfl,rfl,rfl,rfl,rfl,rfl,rfl,by show 0<=d1%2;omega,by show d1%2<=1;omega⟩))
def A2J(d:Dt):kyP (kIn d):=⟨rfl,B2i (q:=(0:Int)%4) (d1:=d.2.1) (d2:=d.2.2.1) (d3:=d.2.2.2.1) (d4:=d.2.2.2.2.1) (d5:=d.2.2.2.2.2.1) (d6:=d.2.2.2.2.2.2.1) (dc:=d.2.2.2.2.2.2.2.1) (t:=d.2.2.2.2.2.2.2.2) (.inl rfl)⟩
def B0s:∀ n:Nat,n<8->tJ (W8.getD n []):=E3
def A91(ws:List Int)(i:Int):tJ (kCm ws i):=by
 unfold kCm;split
 .exact B0s _ A2
 .decide
def kI(p:Xt)(a:List Gt):Prop:=(∀ g ∈ a,gP g)/\(a.map gK).Nodup/\p ∉ a.map gK
def B5M(ws:List Int)(i:Int)(d:Dt):gK (kG ws i d)=kIn d:=by unfold gK kG;rfl
def B15(ws:List Int)(i:Int)(d:Dt):gP (kG ws i d):=⟨A2J d,A91 ws i⟩
def B28{a:List Gt}(h:a.any (gQ x)=false):x ∉ a.map gK:=fun k=>by
 obtain⟨g,f,e⟩:=I6.1 k
 have:=Z9.1 h g f;exact this (wF.2 e)
def B11{p:Xt}{d:Dt}(h:kI p (el acc)):kI p (el (kdA p ws i d acc)):=by
 unfold kdA;split
 .rename_i c;rw[bH,O5];have l:=B28 c.1;have h3:kIn d≠p:=fun e=>by
   have:=wF.2 e;rw[c.2]at this;cases this
  refine⟨fun g f=>?_,?_,?_⟩
  .rcases B6.1 f with f|f
   .exact h.1 g f
   .obtain rfl:=K9.1 f;exact B15 ws i d
  .rw[M7];refine bR.2 ⟨h.2.1,by simp,fun a n b m=>?_⟩;obtain rfl:=K9.1 m;exact fun e=>l (by rw[B5M]at e;rw[<- e];exact n)
  .rw[M7];intro k;rcases B6.1 k with k|k
   .exact h.2.2 k
   .exact h3 (K9.1 k).symm
 .exact h
def A7e{p:Xt}{ws:List Int}:∀ {l:List Dt} {i:Int} {acc:Option (List Gt)},kI p (el acc)->kI p (el (kdL p ws l i acc))/\(el (kdL p ws l i acc)).length<=(el acc).length+l.length
 | [],i,acc,h=>⟨h,by show(el acc).length<=_;omega⟩
 | d::l,i,acc,h=>by
   have h1:=A7e (ws:=ws) (l:=l) (i:=i+1) (B11 (ws:=ws) (i:=i) (d:=d) h);have e:=A7g p ws i d acc;refine⟨h1.1,?_⟩;have h3:=h1.2;rw[C8];show(el (kdL p ws l (i+1) (kdA p ws i d acc))).length<=_;omega
def B1y{p:Xt}{l:List Dt}(hp:kyP p):kmP p (el (kdL p ws (l.take 20) 0 none))/\(el (kdL p ws (l.take 20) 0 none)).length<=20:=by
 have h:=A7e (p:=p) (ws:=ws) (l:=l.take 20) (i:=0) (acc:=none) ⟨fun g e=>(by cases e),nG,K5⟩;have f:=h.2;have h3:(el (none:Option (List Gt))).length=0:=rfl;rw[h3,H3]at f;exact⟨⟨hp,A2,h.1.1,h.1.2.1,h.1.2.2⟩,A2⟩
def B2P(h:gP g):gOk g:=by
 obtain⟨h1,f⟩:=h;obtain⟨e,n,l⟩:=UD h1;have h3:=f.2.1;have m:g.2.2.2.2.2.2.2.1=[]:=E1 (fun x:Xt=>x.2.2.2.2.2.2.2) e;refine⟨?_,?_,?_,?_⟩
 .have:(0:Int)<=g.2.2.1:=n;omega
 .have:g.2.2.1<=(7:Int):=l;omega
 .rw[m];decide
 .have:g.2.2.2.2.2.2.2.2.1.length<=100:=h3;omega
end
end Go.Proofs.YtbbicpheoakeeaaGreatDoor
