import Derived.Test.YtbbicpheoakeeaaGreatDoorX11
import Derived.Lib.Bytealg
set_option linter.all false
set_option maxRecDepth 100000
set_option maxHeartbeats 4000000
namespace Go.Proofs.YtbbicpheoakeeaaGreatDoor
variable {x:Xt}{a8 b p r sep u z:B2}{d i j m v y:Int}{a:UInt8}{g:Gt}
section
open Go Go.Sx Go.Proofs.Tryz
def rS:Rw B2:=r1 zX
def nmL:List B2:=[[85,112],[68,111,119,110],[82,105,103,104,116],[76,101,102,116],[69,110,100],[72,111,109,101],[70,49],[70,50],[70,51],[70,52],[73,110,115,101,114,116],[68,101,108,101,116,101],[80,97,103,101,85,112],[80,97,103,101,68,111,119,110],[70,53],[70,54],[70,55],[70,56],[70,57],[70,49,48],[70,49,49],[70,49,50],[69,110,116,101,114],[84,97,98],[66,97,99,107],[69,115,99,97,112,101]]
def A2q{R:Nat->Option Obj}{x:Option (List B2)}{vs:D2}(h:ShL R [.s 11,.s 9] [E4 rS x,.str sep] vs):∃ v,vs=[v,.string ⟨⟨sep⟩⟩]/\Enc R (E4 rS x) v:=by
 generalize hu:[E4 rS x,U.str sep]=us at h;cases h with
 | cons h1 k =>
   cases h1 with
   | s e t1 =>
     cases k with
     | cons h3 c =>
       cases h3 with
       | s f t2 =>
         cases c;simp only[S4,G4,L4,J5,and_true]at hu;obtain⟨rfl,rfl⟩:=hu
         have:=fT f (show toV (.str sep)=some (.string ⟨⟨sep⟩⟩)from rfl);subst this;exact⟨_,rfl,e⟩
def A1X{R:Nat->Option Obj}{x:Option (List B2)}{v:Value}(h:Enc R (E4 rS x) v):(el x=[]/\∃ a c,v=.slice a 0 c)∨∃ a o c C T fz,v=.slice (some ⟨a,o,none⟩) (el x).length c/\(el x).length<=c/\(el x≠[]->R a=some (.cells C T fz))/\∀ (j:Nat) (s:B2),(el x)[j]? = some s->C[o+j]? = some (.string ⟨⟨s⟩⟩):=by
 rw[O0]at h;generalize hu:U.seq _ _ _=u at h;cases h with
 | sc h=>subst hu;cases h
 | nil =>
   injection hu with h1 h2 h3
   exact .inl ⟨by simpa using h3,_,_,rfl⟩
 | emp =>
   injection hu with h1 h2 h3
   exact .inl ⟨by simpa using h3,_,_,rfl⟩
 | sl A B n hw h =>
   rename_i w rows a o c C T fz;injection hu with h1 h2 h3
   subst h3;have q:w=1:=h2.symm;subst q;have t:((el x).map rS.enc).length=(el x).length:=E5 ..;rw[t]at A n;refine .inr ⟨a,o,c,C,T,fz,by rw[t],A,fun l=>B (by simpa using l),fun j s k=>?_⟩;have l:(el x).map rS.enc≠[]:=by intro e;rw[List.map_eq_nil_iff.1 e]at k;cases k
   have D:j<(el x).length:=(B0.1 k).1;have n:=n l;have f:o+j<C.size:=A2
   have:=h j (rS.enc s) 0 (.str s) C[o+j] (by rw[G2,k];rfl) rfl (by rw[Nat.mul_one,jJ];exact F3 f);rw[F3 f,fT this (show toV (.str s)=some (.string ⟨⟨s⟩⟩)from rfl)]
def jnS(x:Option (List B2))(sep:B2):B2:=Lib.join (el x) sep
def A0M(l:List B2):(l.map (fun s=>ByteArray.mk ⟨s⟩)).map (·.data.toList)=l:=by
 rw[dR];exact(dC fun _ _=>rfl).trans (List.map_id _)
def UX:List U->Option (Nat×List U)
 | [u_x,.str sep]=>(P0 rS u_x).bind fun x=>if((el x).length:Int)<=1000000/\(jnS x sep).length<=1000000000 then some (0,[.str (jnS x sep)])else none
 | _=>none
def A7u(x:(Option (List B2)))(sep:B2)(c:((el x).length:Int)<=1000000/\(jnS x sep).length<=1000000000):UX [E4 rS x,.str sep]=some (0,[.str (jnS x sep)]):=by
 simp only[UX,I0,F5];exact A9 c
def B2T{G}(D:L2 G):M1 prog G 93 [.s 11,.s 9] UX [.s 9]:=by
 intro us outs w vs R q f F hR;unfold UX at f;split at f
 .skip;rename_i E sep;have n:=B9.1 f;clear f;obtain⟨x,k,f⟩:=n;replace k:=K4 k;subst k;split at f
  .rename_i B;cases f;refine fW (vr:=[.string ⟨⟨jnS x sep⟩⟩]) func93 rfl C8 rfl ?_;obtain⟨v,rfl,hv⟩:=A2q q;rcases A1X hv with⟨h0,a,c,rfl⟩|⟨a,o,c,C,T,fz,rfl,h1,A,h3⟩
   .refine((Tryz.strings_Join_none a c ⟨⟨sep⟩⟩ w).mono fun e w' ⟨g1,g2⟩=>⟨?_,by subst g2;exact RowKit.Below.refl _ _⟩);rw[g1];unfold jnS;rw[h0];rfl
   .by_cases t:el x=[]
    .rw[t];refine((Tryz.strings_Join_none _ c ⟨⟨sep⟩⟩ w).mono fun e w' ⟨g1,g2⟩=>⟨?_,by subst g2;exact RowKit.Below.refl _ _⟩);rw[g1];unfold jnS;rw[t];rfl
    .have h:=A t;have hw:=hR _ _ h;have key:=Tryz.strings_Join a o c ((el x).map (fun s=>ByteArray.mk ⟨s⟩)) ⟨⟨sep⟩⟩ w (fun j y l=>?_) (hR.lt h) (by rw[E5];omega) (by rw[E5];exact h1) (by rw[A0M];show(jnS x sep).length<=_;have:=B.2;omega)
     .rw[E5]at key;refine(key.mono fun e w' ⟨g1,g2⟩=>⟨?_,g2⟩);rw[g1,A0M];rfl
     .rw[G2]at l;cases f:(el x)[j]? with
      | none=>rw[f]at l;cases l
      | some s =>
        rw[f]at l;cases l;simp only[World.cell?,hw];exact h3 j s f
  .cases f
 .cases f
noncomputable def B0z:R3:=⟨_,fun c=>.nil⟩
def yD:List U->Option (Nat×List U)
 | []=>some (0,[E4 rS (some nmL)])
 | _=>none
def RA :yD []=some (0,[E4 rS (some nmL)]):=rfl
def ZZ{G}(c:L2 G):M1 prog G 89 [] yD [.s 11]:=by
 refine gH (d:=60) (cxg (B0z.2 c) .nil) c ⟨f89,_,func89,rfl⟩ ?_;intro us outs e;unfold yD at e;split at e
 .cases e;exact⟨[],by kernel_rfl⟩
 .cases e
def RU(x:Option (List B2)):jnS x []=(el x).flatten:=by
 unfold jnS Lib.join;generalize el x=l;have h:∀ l:List B2,(List.intersperse [] l).flatten=l.flatten:=fun l=>by
  induction l with
  | nil=>rfl
  | cons a l c =>
    cases l with
    | nil=>rfl
    | cons b l=>rw[List.intersperse_cons_cons,K7,K7,c,K7 (l:=a)];rfl
 exact h l
noncomputable def B08:R3:=⟨_,fun c=>(.cons (B2T c) .nil)⟩
def aB:List U->Option (Nat×List U)
 | [u_x]=>(P0 rS u_x).bind fun x=>if((el x).length:Int)<=1000000/\((el x).flatten.length:Int)<=1000000000 then some (0,[.str ((el x).flatten)])else none
 | _=>none
def wI(x:(Option (List B2)))(c:((el x).length:Int)<=1000000/\((el x).flatten.length:Int)<=1000000000):aB [E4 rS x]=some (0,[.str ((el x).flatten)]):=by
 simp only[aB,I0,F5];exact A9 c
def A5z:Tr:=.fn UX [h 0 11,.string ⟨⟨[]⟩⟩] 1<|.ret [h 1 9]
def KI{G}(l:L2 G):M1 prog G 58 [.s 11] aB [.s 9]:=by
 refine G3 (d:=60) A5z (cxg (B08.2 l) .nil) l ⟨f58,_,func58,rfl⟩ C8 C8 ?_;intro us outs f;unfold aB at f;split at f
 .skip;rename_i o;have k:=B9.1 f;clear f;obtain⟨x,c,f⟩:=k;replace c:=K4 c;subst c;split at f
  .rename_i n;cases f;unfold A5z;refine w0 (.cons 0 _ (.nil)) ?_;repeat (first|refine w31 UX (e:=A7u _ _ ⟨n.1,by rw[RU];omega⟩) (k':=?_)|(refine w7 [.str _] ?_;rotate_left))
   all_goals
    first|(rw[RU];done)
  .cases f
 .cases f
def IP:List U->Option (Nat×List U)
 | [.str s,.int .i64 c]=>if 0<=c/\c<=1000/\(s.length:Int)<=1000 then some (0,[.str (Lib.repeatL s c.toNat)])else none
 | _=>none
def A2z(s:B2)(c:Int)(e:0<=c/\c<=1000/\(s.length:Int)<=1000):IP [.str s,.int .i64 c]=some (0,[.str (Lib.repeatL s c.toNat)]):=A9 e
def A8p{G}(q:L2 G):M1 prog G 34 [.s 9,.s 3] IP [.s 9]:=by
 intro us outs w vs R k f t hR;unfold IP at f;split at f
 .skip;rename_i s c;split at f
  .rename_i h;cases f;have hv:=U9 (vs2:=[.string ⟨⟨s⟩⟩,.int .i64 c]) k rfl;subst hv;refine fW (vr:=[.string ⟨⟨Lib.repeatL s c.toNat⟩⟩]) func34 rfl C8 rfl ?_;obtain⟨n,rfl⟩:∃ n:Nat,c=n:=⟨c.toNat,A2⟩;have o:s.length*n<=140737488355328:=C5 (fA (show s.length<=1000 by omega) (show n<=1000 by omega)) E6;exact(Tryz.strings_Repeat ⟨⟨s⟩⟩ n w A2 o).mono fun e w' ⟨h1,l⟩=>⟨h1,l⟩
  .cases f
 .cases f
def HT:List U->Option (Nat×List U)
 | [.str s]=>if(s.length:Int)<=1000/\(∀ b ∈ s,b.toNat<128)then some (0,[.str (Lib.toUpperA s)])else none
 | _=>none
def A2g(s:B2)(c:(s.length:Int)<=1000/\(∀ b ∈ s,b.toNat<128)):HT [.str s]=some (0,[.str (Lib.toUpperA s)]):=A9 c
def A8d{G}(o:L2 G):M1 prog G 107 [.s 9] HT [.s 9]:=by
 intro us outs w vs R f c q hR;unfold HT at c;split at c
 .skip;rename_i s;split at c
  .rename_i n;cases c;have hv:=U9 (vs2:=[.string ⟨⟨s⟩⟩]) f rfl;subst hv;refine fW (vr:=[.string ⟨⟨Lib.toUpperA s⟩⟩]) func107 rfl C8 rfl ?_;exact(Tryz.strings_ToUpper_ascii ⟨⟨s⟩⟩ w (by show s.length<=_;omega) (fun j b l=>by have:=n.2 b (D0 l);omega)).mono fun e w' ⟨h1,k⟩=>⟨h1,k⟩
  .cases c
 .cases c
def hU(d:Int):UInt8:=([48,49,50,51,52,53,54,55,56,57,65,66,67,68,69,70]:B2).getD d.toNat 0
def aJ(c:Int):B2:=if c<65536 then[hU (c / 4096%16),hU (c / 256%16),hU (c / 16%16),hU (c%16)]else if c<1048576 then[hU (c / 65536%16),hU (c / 4096%16),hU (c / 256%16),hU (c / 16%16),hU (c%16)]else[hU (c / 1048576%16),hU (c / 65536%16),hU (c / 4096%16),hU (c / 256%16),hU (c / 16%16),hU (c%16)]
def j7(c:Int):B2:=if 1114113<=c then nmL.getD (c-1114113).toNat []else if c=32 then[83,112,97,99,101]else if c<=126 then[UInt8.ofNat c.toNat]else[85,43]++aJ c
def cc{b:UInt8}{l m:B2}(h:a=b)(k:l=m):a::l=b::m:=by rw[h,k]
def UV{n m:Nat}(h:Nat.ble n m=true):(n:Int)<=(m:Int):=dS.2 (A1 h)
def hx(d:Int):Int:=((([48,49,50,51,52,53,54,55,56,57,97,98,99,100,101,102,103,104,105,106,107,108,109,110,111,112,113,114,115,116,117,118,119,120,121,122]:B2).getD d.toNat 0).toNat:Int)
def tI(d:Int):0<=hx d/\hx d<128:=by
 unfold hx;rcases F7 d.toNat 36 with h|h
 .have k:∀ n:Nat,n<36->(([48,49,50,51,52,53,54,55,56,57,97,98,99,100,101,102,103,104,105,106,107,108,109,110,111,112,113,114,115,116,117,118,119,120,121,122]:B2).getD n 0).toNat<128:=E6
  have:=k _ h;omega
 .rw[B1,fH.2 h];decide
def U0(d:Int):0<=hx d/\hx d<256:=by have:=tI d;omega
def n9(h0:0<=d)(h1:d<16):Lib.upperB (UInt8.ofNat (hx d).toNat)=hU d:=by
 have k:∀ n:Nat,n<16->Lib.upperB (UInt8.ofNat (((([48,49,50,51,52,53,54,55,56,57,97,98,99,100,101,102,103,104,105,106,107,108,109,110,111,112,113,114,115,116,117,118,119,120,121,122]:B2).getD n 0).toNat:Int)).toNat)=([48,49,50,51,52,53,54,55,56,57,65,66,67,68,69,70]:B2).getD n 0:=E6;exact k d.toNat A2
def A92(h0:0<=d)(h1:d<36):evU .idx [.str [48,49,50,51,52,53,54,55,56,57,97,98,99,100,101,102,103,104,105,106,107,108,109,110,111,112,113,114,115,116,117,118,119,120,121,122],.int .u64 d]=.int .u8 (hx d):=OU _ _ _ h0 (by show _<((36:Nat):Int);omega)
attribute [irreducible] hx
def WB(l:List Int):(Lib.toUpperA (iB l)).length=l.length:=by unfold Lib.toUpperA iB;rw[E5,E5]
def B1b{l:List Int}(h:l.length<=6)(f:∀ x ∈ l,0<=x/\x<128):((iB l).length:Int)<=1000/\(∀ b ∈ iB l,b.toNat<128):=by
 unfold iB;refine⟨by rw[E5];omega,fun b e=>?_⟩;obtain⟨x,c,rfl⟩:=I1.1 e
 have:=f x c;show(UInt8.ofNat x.toNat).toNat<128;rw[UInt8.toNat_ofNat',W1 A2];omega
def B1f{l:List Int}(h:l.length<=6):IntKind.i64.wrap (4-((Lib.toUpperA (iB l)).length:Int))=4-((Lib.toUpperA (iB l)).length:Int):=by
 rw[WB];exact iH A2 A2
def B2S{l:List Int}(h:l.length<=6):((el (some [[85,43],Lib.repeatL [48] (max 0 (4-((Lib.toUpperA (iB l)).length:Int))).toNat,Lib.toUpperA (iB l)])).length:Int)<=1000000/\((el (some [[85,43],Lib.repeatL [48] (max 0 (4-((Lib.toUpperA (iB l)).length:Int))).toNat,Lib.toUpperA (iB l)])).flatten.length:Int)<=1000000000:=by
 refine⟨UV (m:=1000000) rfl,?_⟩;rw[K3];simp only[K7,S3,L4,B8,Lib.repeatL_length,WB,C7,N1];omega
def B1q{l:List Int}(h:l.length<=6):0<=max 0 (4-((Lib.toUpperA (iB l)).length:Int))/\max 0 (4-((Lib.toUpperA (iB l)).length:Int))<=1000/\((([48]:B2).length:Nat):Int)<=1000:=⟨A2,A2,UV (m:=1000) rfl⟩
def VZ(b:UInt8):0<=(b.toNat:Int)/\(b.toNat:Int)<256:=by have:=b.toNat_lt;omega
def A15{c:Int}(h:1114113<=c):j7 c=nmL.getD (c-1114113).toNat []:=A9 h
def GU{c:Int}(h:¬1114113<=c)(e:¬c=32)(h3:¬c<=126):j7 c=[85,43]++aJ c:=by unfold j7;rw[A7 h,A7 e,A7 h3]
def A19{c:Int}(h:¬1114113<=c)(e:¬c=32)(h3:c<=126):j7 c=[UInt8.ofNat c.toNat]:=by unfold j7;rw[A7 h,A7 e,A9 h3]
def A16{c:Int}(e:c=32):j7 c=[83,112,97,99,101]:=by subst e;rfl
def A18{c:Int}(e:z=u)(hu:Lib.repeatL [48] (max 0 (4-(u.length:Int))).toNat++u=aJ c)(f:j7 c=[85,43]++aJ c):(el (some [[85,43],Lib.repeatL [48] (max 0 (4-(z.length:Int))).toNat,z])).flatten=j7 c:=by
 subst e;rw[f,<- hu,K3];simp only[K7,S3,L4]
def B20{c:Int}(h0:0<=c)(h1:c<256):Lib.toUpperA (iB [hx (c / 16),hx (c%16)])=[hU (c / 16%16),hU (c%16)]:=by
 show[Lib.upperB (UInt8.ofNat (hx (c / 16)).toNat),Lib.upperB (UInt8.ofNat (hx (c%16)).toNat)]=_;rw[n9 (d:=c / 16) A2 A2,n9 (d:=c%16) A2 A2];exact cc (F1 hU A2) (cc (F1 hU A2) (rfl))
def B2q{c:Int}(h0:0<=c)(h1:c<256):Lib.repeatL [48] (max 0 (4-(([hU (c / 16%16),hU (c%16)]:B2).length:Int))).toNat++[hU (c / 16%16),hU (c%16)]=aJ c:=by
 unfold aJ;rw[A9 A2];rw[show c / 4096%16=0 by omega];rw[show c / 256%16=0 by omega];rfl
def B2z{c:Int}(h0:0<=c)(h1:c<4096):Lib.toUpperA (iB [hx (c / 16 / 16),hx (c / 16%16),hx (c%16)])=[hU (c / 256%16),hU (c / 16%16),hU (c%16)]:=by
 show[Lib.upperB (UInt8.ofNat (hx (c / 16 / 16)).toNat),Lib.upperB (UInt8.ofNat (hx (c / 16%16)).toNat),Lib.upperB (UInt8.ofNat (hx (c%16)).toNat)]=_;rw[n9 (d:=c / 16 / 16) A2 A2,n9 (d:=c / 16%16) A2 A2,n9 (d:=c%16) A2 A2];exact cc (F1 hU A2) (cc (F1 hU A2) (cc (F1 hU A2) (rfl)))
def B2p{c:Int}(h0:0<=c)(h1:c<4096):Lib.repeatL [48] (max 0 (4-(([hU (c / 256%16),hU (c / 16%16),hU (c%16)]:B2).length:Int))).toNat++[hU (c / 256%16),hU (c / 16%16),hU (c%16)]=aJ c:=by
 unfold aJ;rw[A9 A2];rw[show c / 4096%16=0 by omega];rfl
def B2y{c:Int}(h0:0<=c)(h1:c<65536):Lib.toUpperA (iB [hx (c / 16 / 16 / 16),hx (c / 16 / 16%16),hx (c / 16%16),hx (c%16)])=[hU (c / 4096%16),hU (c / 256%16),hU (c / 16%16),hU (c%16)]:=by
 show[Lib.upperB (UInt8.ofNat (hx (c / 16 / 16 / 16)).toNat),Lib.upperB (UInt8.ofNat (hx (c / 16 / 16%16)).toNat),Lib.upperB (UInt8.ofNat (hx (c / 16%16)).toNat),Lib.upperB (UInt8.ofNat (hx (c%16)).toNat)]=_;rw[n9 (d:=c / 16 / 16 / 16) A2 A2,n9 (d:=c / 16 / 16%16) A2 A2,n9 (d:=c / 16%16) A2 A2,n9 (d:=c%16) A2 A2];exact cc (F1 hU A2) (cc (F1 hU A2) (cc (F1 hU A2) (cc (F1 hU A2) (rfl))))
def B2o{c:Int}(h0:0<=c)(h1:c<65536):Lib.repeatL [48] (max 0 (4-(([hU (c / 4096%16),hU (c / 256%16),hU (c / 16%16),hU (c%16)]:B2).length:Int))).toNat++[hU (c / 4096%16),hU (c / 256%16),hU (c / 16%16),hU (c%16)]=aJ c:=by
 unfold aJ;rw[A9 A2];rfl
def B2x{c:Int}(h0:0<=c)(h1:c<1048576):Lib.toUpperA (iB [hx (c / 16 / 16 / 16 / 16),hx (c / 16 / 16 / 16%16),hx (c / 16 / 16%16),hx (c / 16%16),hx (c%16)])=[hU (c / 65536%16),hU (c / 4096%16),hU (c / 256%16),hU (c / 16%16),hU (c%16)]:=by
 show[Lib.upperB (UInt8.ofNat (hx (c / 16 / 16 / 16 / 16)).toNat),Lib.upperB (UInt8.ofNat (hx (c / 16 / 16 / 16%16)).toNat),Lib.upperB (UInt8.ofNat (hx (c / 16 / 16%16)).toNat),Lib.upperB (UInt8.ofNat (hx (c / 16%16)).toNat),Lib.upperB (UInt8.ofNat (hx (c%16)).toNat)]=_;rw[n9 (d:=c / 16 / 16 / 16 / 16) A2 A2,n9 (d:=c / 16 / 16 / 16%16) A2 A2,n9 (d:=c / 16 / 16%16) A2 A2,n9 (d:=c / 16%16) A2 A2,n9 (d:=c%16) A2 A2];exact cc (F1 hU A2) (cc (F1 hU A2) (cc (F1 hU A2) (cc (F1 hU A2) (cc (F1 hU A2) (rfl)))))
def B2n{c:Int}(h0:0<=c)(h1:c<1048576)(e:65536<=c):Lib.repeatL [48] (max 0 (4-(([hU (c / 65536%16),hU (c / 4096%16),hU (c / 256%16),hU (c / 16%16),hU (c%16)]:B2).length:Int))).toNat++[hU (c / 65536%16),hU (c / 4096%16),hU (c / 256%16),hU (c / 16%16),hU (c%16)]=aJ c:=by
 unfold aJ;rw[A7 A2,A9 A2];rfl
def B2w{c:Int}(h0:0<=c)(h1:c<16777216):Lib.toUpperA (iB [hx (c / 16 / 16 / 16 / 16 / 16),hx (c / 16 / 16 / 16 / 16%16),hx (c / 16 / 16 / 16%16),hx (c / 16 / 16%16),hx (c / 16%16),hx (c%16)])=[hU (c / 1048576%16),hU (c / 65536%16),hU (c / 4096%16),hU (c / 256%16),hU (c / 16%16),hU (c%16)]:=by
 show[Lib.upperB (UInt8.ofNat (hx (c / 16 / 16 / 16 / 16 / 16)).toNat),Lib.upperB (UInt8.ofNat (hx (c / 16 / 16 / 16 / 16%16)).toNat),Lib.upperB (UInt8.ofNat (hx (c / 16 / 16 / 16%16)).toNat),Lib.upperB (UInt8.ofNat (hx (c / 16 / 16%16)).toNat),Lib.upperB (UInt8.ofNat (hx (c / 16%16)).toNat),Lib.upperB (UInt8.ofNat (hx (c%16)).toNat)]=_;rw[n9 (d:=c / 16 / 16 / 16 / 16 / 16) A2 A2,n9 (d:=c / 16 / 16 / 16 / 16%16) A2 A2,n9 (d:=c / 16 / 16 / 16%16) A2 A2,n9 (d:=c / 16 / 16%16) A2 A2,n9 (d:=c / 16%16) A2 A2,n9 (d:=c%16) A2 A2];exact cc (F1 hU A2) (cc (F1 hU A2) (cc (F1 hU A2) (cc (F1 hU A2) (cc (F1 hU A2) (cc (F1 hU A2) (rfl))))))
def B2m{c:Int}(h0:0<=c)(h1:c<16777216)(e:1048576<=c):Lib.repeatL [48] (max 0 (4-(([hU (c / 1048576%16),hU (c / 65536%16),hU (c / 4096%16),hU (c / 256%16),hU (c / 16%16),hU (c%16)]:B2).length:Int))).toNat++[hU (c / 1048576%16),hU (c / 65536%16),hU (c / 4096%16),hU (c / 256%16),hU (c / 16%16),hU (c%16)]=aJ c:=by
 unfold aJ;rw[A7 A2,A7 A2];rfl
noncomputable def B1M:R3:=⟨_,fun c=>(.cons (ZZ c) (.cons (KI c) (.cons (A8p c) (.cons (A8d c) .nil))))⟩
def DZ:List U->Option (Nat×List U)
 | [.int .i64 c]=>if(32<=c/\c<=126)∨(160<=c/\c<=1114111)∨(1114113<=c/\c<=1114138)then some (0,[.str (j7 c)])else none
 | _=>none
def A4M(c:Int)(e:(32<=c/\c<=126)∨(160<=c/\c<=1114111)∨(1114113<=c/\c<=1114138)):DZ [.int .i64 c]=some (0,[.str (j7 c)]):=A9 e
def mQ(a0:Nat):Tr:=.fn HT [h a0 9] 1<|aD [h (a0+1) 9]<|aS [jI 4,h3 (a0+2)]<|.lt 3 (.max) [jI 0,h3 (a0+3)]<|.fn IP [.string ⟨⟨[48]⟩⟩,h3 (a0+4)] 1<|.dt 11 (.mk 1) [.string ⟨⟨[85,43]⟩⟩,h (a0+5) 9,h (a0+1) 9]<|.fn aB [h (a0+6) 11] 1<|.ret [h (a0+7) 9]
def vX(a0:Nat)(c:Nat)(f e:Tr):Tr:=.lt 7 (.bin .and) [h a0 7,.int .u64 (15)]<|.lt 4 (.idx) [.string ⟨⟨[48,49,50,51,52,53,54,55,56,57,97,98,99,100,101,102,103,104,105,106,107,108,109,110,111,112,113,114,115,116,117,118,119,120,121,122]⟩⟩,h c 7]<|.lt 7 (.bin .shr) [h a0 7,.int .u64 (4)]<|aH [h (c+2) 7,.int .u64 (16)]<|.br (c+3) f e
def A6n:Tr:=K8 0 1 1114113 (.fn yD [] 1<|aS [h3 0,jI 1114113]<|dG 2 3 4 (.lt 9 (.get 1 0) [h 2 11,h3 3]<|.ret [h 5 9])) (J7 0 2 32 (.ret [.string ⟨⟨[83,112,97,99,101]⟩⟩]) (R5 0 3 126 (.lt 4 (.conv .u8) [h3 0]<|.lt 9 (.mks) [h 4 4]<|.ret [h 5 9]) (.lt 7 (.conv .u64) [h3 0]<|aL [h3 0,jI 0]<|.br 5 (.no) (aH [h 4 7,.int .u64 (16)]<|.br 6 (vX 4 7 (vX 9 11 (vX 13 15 (vX 17 19 (.lt 7 (.bin .and) [h 21 7,.int .u64 (15)]<|.lt 4 (.idx) [.string ⟨⟨[48,49,50,51,52,53,54,55,56,57,97,98,99,100,101,102,103,104,105,106,107,108,109,110,111,112,113,114,115,116,117,118,119,120,121,122]⟩⟩,h 23 7]<|.lt 7 (.bin .shr) [h 21 7,.int .u64 (4)]<|aH [h 25 7,.int .u64 (16)]<|.br 26 (.no) (.lt 4 (.idx) [.string ⟨⟨[48,49,50,51,52,53,54,55,56,57,97,98,99,100,101,102,103,104,105,106,107,108,109,110,111,112,113,114,115,116,117,118,119,120,121,122]⟩⟩,h 25 7]<|.lt 9 (.mks) [h 27 4,h 24 4,h 20 4,h 16 4,h 12 4,h 8 4]<|mQ 28)) (.lt 4 (.idx) [.string ⟨⟨[48,49,50,51,52,53,54,55,56,57,97,98,99,100,101,102,103,104,105,106,107,108,109,110,111,112,113,114,115,116,117,118,119,120,121,122]⟩⟩,h 21 7]<|.lt 9 (.mks) [h 23 4,h 20 4,h 16 4,h 12 4,h 8 4]<|mQ 24)) (.lt 4 (.idx) [.string ⟨⟨[48,49,50,51,52,53,54,55,56,57,97,98,99,100,101,102,103,104,105,106,107,108,109,110,111,112,113,114,115,116,117,118,119,120,121,122]⟩⟩,h 17 7]<|.lt 9 (.mks) [h 19 4,h 16 4,h 12 4,h 8 4]<|mQ 20)) (.lt 4 (.idx) [.string ⟨⟨[48,49,50,51,52,53,54,55,56,57,97,98,99,100,101,102,103,104,105,106,107,108,109,110,111,112,113,114,115,116,117,118,119,120,121,122]⟩⟩,h 13 7]<|.lt 9 (.mks) [h 15 4,h 12 4,h 8 4]<|mQ 16)) (.lt 4 (.idx) [.string ⟨⟨[48,49,50,51,52,53,54,55,56,57,97,98,99,100,101,102,103,104,105,106,107,108,109,110,111,112,113,114,115,116,117,118,119,120,121,122]⟩⟩,h 9 7]<|.lt 9 (.mks) [h 11 4,h 8 4]<|mQ 12)) (.lt 4 (.idx) [.string ⟨⟨[48,49,50,51,52,53,54,55,56,57,97,98,99,100,101,102,103,104,105,106,107,108,109,110,111,112,113,114,115,116,117,118,119,120,121,122]⟩⟩,h 4 7]<|.lt 9 (.mks) [h 7 4]<|mQ 8)))))
def B0P{G}(n:L2 G):M1 prog G 84 [.s 3] DZ [.s 9]:=by
 refine G3 (d:=60) A6n (cxg (B1M.2 n) .nil) n ⟨f84,_,func84,rfl⟩ C8 C8 ?_;intro us outs l;unfold DZ at l;split at l
 .skip;rename_i c;split at l
  .rename_i o;cases l;have q:((el (some nmL)).length:Int)=26:=rfl;unfold A6n;refine w0 (.cons 0 _ (.nil)) ?_;repeat (first|refine w4 (fun g=>?_) fun g=>?_|refine w1 (.idx) (e:=A92 A2 A2) (k':=?_)|(refine w7 [.str _] ?_;rotate_left)|refine kO ?_|refine w31 HT (e:=A2g _ (B1b (A1 rfl) (by intro k f;simp only[B4,K5,or_false]at f;first|omega|(rcases f with rfl|rfl|rfl|rfl|rfl|rfl<;>exact tI _)|(rcases f with rfl|rfl|rfl|rfl|rfl<;>exact tI _)|(rcases f with rfl|rfl|rfl|rfl<;>exact tI _)|(rcases f with rfl|rfl|rfl<;>exact tI _)|(rcases f with rfl|rfl<;>exact tI _)))) (k':=?_)|refine kE ?_|refine w1 (.bin .sub) (e:=SK (B1f (A1 rfl))) (k':=?_)|refine B1e ?_|refine w31 IP (e:=A2z _ _ (B1q (A1 rfl))) (k':=?_)|refine w2 (.mk 1) (r:=rS) (e:=tO [_,_,_] rfl E6 rfl) (k':=?_)|refine w31 aB (e:=wI _ (B2S (A1 rfl))) (k':=?_)|refine w1 (.bin .and) (e:=SQ 4 16 E6 E6 E6) (k':=?_)|refine w1 (.bin .shr) (e:=SL 16 E6 E6) (k':=?_)|refine HW ?_|refine wX ?_|(refine w8 ?_;first|omega)|refine WC ?_|refine HU ?_|refine w1 (.mks) (e:=tN [_] (by intro k f;simp only[B4,K5,or_false]at f;first|omega|(rcases f with rfl|rfl|rfl|rfl|rfl|rfl<;>exact U0 _)|(rcases f with rfl|rfl|rfl|rfl|rfl<;>exact U0 _)|(rcases f with rfl|rfl|rfl|rfl<;>exact U0 _)|(rcases f with rfl|rfl|rfl<;>exact U0 _)|(rcases f with rfl|rfl<;>exact U0 _))) (k':=?_)|refine w31 yD (e:=RA) (k':=?_)|refine eC ?_|refine w1 (.get 1 0) (u:=.str _) (e:=E1 rfl A2 A2 rfl) (k':=?_)|refine fE ?_|refine pS ?_|refine dI ?_|refine w1 (.mks) (e:=tN [_,_,_,_,_,_] (by intro k f;simp only[B4,K5,or_false]at f;first|omega|(rcases f with rfl|rfl|rfl|rfl|rfl|rfl<;>exact U0 _)|(rcases f with rfl|rfl|rfl|rfl|rfl<;>exact U0 _)|(rcases f with rfl|rfl|rfl|rfl<;>exact U0 _)|(rcases f with rfl|rfl|rfl<;>exact U0 _)|(rcases f with rfl|rfl<;>exact U0 _))) (k':=?_)|refine w1 (.mks) (e:=tN [_,_,_,_,_] (by intro k f;simp only[B4,K5,or_false]at f;first|omega|(rcases f with rfl|rfl|rfl|rfl|rfl|rfl<;>exact U0 _)|(rcases f with rfl|rfl|rfl|rfl|rfl<;>exact U0 _)|(rcases f with rfl|rfl|rfl|rfl<;>exact U0 _)|(rcases f with rfl|rfl|rfl<;>exact U0 _)|(rcases f with rfl|rfl<;>exact U0 _))) (k':=?_)|refine w1 (.mks) (e:=tN [_,_,_,_] (by intro k f;simp only[B4,K5,or_false]at f;first|omega|(rcases f with rfl|rfl|rfl|rfl|rfl|rfl<;>exact U0 _)|(rcases f with rfl|rfl|rfl|rfl|rfl<;>exact U0 _)|(rcases f with rfl|rfl|rfl|rfl<;>exact U0 _)|(rcases f with rfl|rfl|rfl<;>exact U0 _)|(rcases f with rfl|rfl<;>exact U0 _))) (k':=?_)|refine w1 (.mks) (e:=tN [_,_,_] (by intro k f;simp only[B4,K5,or_false]at f;first|omega|(rcases f with rfl|rfl|rfl|rfl|rfl|rfl<;>exact U0 _)|(rcases f with rfl|rfl|rfl|rfl|rfl<;>exact U0 _)|(rcases f with rfl|rfl|rfl|rfl<;>exact U0 _)|(rcases f with rfl|rfl|rfl<;>exact U0 _)|(rcases f with rfl|rfl<;>exact U0 _))) (k':=?_)|refine w1 (.mks) (e:=tN [_,_] (by intro k f;simp only[B4,K5,or_false]at f;first|omega|(rcases f with rfl|rfl|rfl|rfl|rfl|rfl<;>exact U0 _)|(rcases f with rfl|rfl|rfl|rfl|rfl<;>exact U0 _)|(rcases f with rfl|rfl|rfl|rfl<;>exact U0 _)|(rcases f with rfl|rfl|rfl<;>exact U0 _)|(rcases f with rfl|rfl<;>exact U0 _))) (k':=?_))
   all_goals
    first
    | (exfalso;omega)
    | exact F1 (fun z=>[U.str z]) (A15 ‹_›).symm
    | exact F1 (fun z=>[U.str z]) (A16 ‹_›).symm
    | (rw[A19 ‹_› ‹_› ‹_›];rfl)
    | exact F1 (fun z=>[U.str z]) (A18 (B20 A2 A2) (B2q A2 A2) (GU ‹_› ‹_› ‹_›))
    | exact F1 (fun z=>[U.str z]) (A18 (B2z A2 A2) (B2p A2 A2) (GU ‹_› ‹_› ‹_›))
    | exact F1 (fun z=>[U.str z]) (A18 (B2y A2 A2) (B2o A2 A2) (GU ‹_› ‹_› ‹_›))
    | exact F1 (fun z=>[U.str z]) (A18 (B2x A2 A2) (B2n A2 A2 A2) (GU ‹_› ‹_› ‹_›))
    | exact F1 (fun z=>[U.str z]) (A18 (B2w A2 A2) (B2m A2 A2 A2) (GU ‹_› ‹_› ‹_›))
  .cases l
 .cases l
end
section
open Go Go.Sx Go.Proofs.Tryz
def L9(x:Xt):B2:=(if x.2.2.1 / 4%2*4=0 then[]else[67,45])++((if x.2.2.1 / 2%2*2=0 then[]else[77,45])++((if x.2.2.1 / 1%2*1=0 then[]else[83,45])++j7 x.2.1))
def SE(c:Int):(aJ c).length<=6:=by
 unfold aJ
 (repeat' split)<;>exact A1 rfl
def A7c:∀ n:Nat,(nmL.getD n []).length<=8:=by
 intro n;rcases F7 n 26 with h|h
 .have k:∀ n:Nat,n<26->(nmL.getD n []).length<=8:=E6;exact k n h
 .rw[B1,fH.2 h];decide
def A17(c:Int):(j7 c).length<=8:=by
 unfold j7;split
 .exact A7c _
 .split
  .decide
  .split
   .exact A1 rfl
   .have:=SE c;rw[B8];show 2+_<=8;omega
def cR(c:Int):Prop:=(32<=c/\c<=126)∨(160<=c/\c<=1114111)∨(1114113<=c/\c<=1114138)
instance(c:Int):Decidable (cR c):=by unfold cR;infer_instance
def A7r{c:Int}(h:t7 c m):cR c:=by unfold t7 chP okU at h;unfold cR;omega
def A6x(h:xP x)(h1:x.1=1):t7 x.2.1 x.2.2.1:=by
 unfold xP X4 at h;rcases h with h|h|h|h
 .exact h.2.2.2.2.2.2
 .omega
 .omega
 .omega
def yQ(h:kyP x):cR x.2.1:=A7r (A6x h.2 h.1)
def lH(x:Xt):Int:=if ¬xP x then 430 else if x.1≠1 then 2 else 0
def yE(x:Xt):B2:=if lH x=0 then L9 x else[]
def A9A(h:(if xP x then(0:Int)else 430)≠0):[U.str [],U.int .i64 (if xP x then(0:Int)else 430)]=[U.str (yE x),U.int .i64 (lH x)]:=by
 have k:=A6y h;have e:lH x=430:=by unfold lH;rw[A9 k]
 unfold yE;rw[A7 k,e,A7 E6]
def A8_(h:¬(if xP x then(0:Int)else 430)≠0)(h1:x.1≠1):[U.str [],U.int .i64 2]=[U.str (yE x),U.int .i64 (lH x)]:=by
 have e:lH x=2:=by unfold lH;rw[A7 (fun k=>k (VT h)),A9 h1]
 unfold yE;rw[e,A7 E6]
def A89(h:¬(if xP x then(0:Int)else 430)≠0)(h1:¬x.1≠1):[U.str (L9 x),U.int .i64 0]=[U.str (yE x),U.int .i64 (lH x)]:=by
 have e:lH x=0:=by unfold lH;rw[A7 (fun k=>k (VT h)),A7 h1]
 unfold yE;rw[e,A9 rfl]
def A9B(h:¬(if xP x then(0:Int)else 430)≠0)(h1:¬x.1≠1):cR x.2.1:=yQ ⟨D9.1 h1,VT h⟩
noncomputable def B00:R3:=⟨_,fun c=>(.cons (B0P c) (.cons (KI c) .nil))⟩
def jP:List U->Option (Nat×List U)
 | [.int .i64 k,.int .i64 c,.int .i64 m,.int .i64 w,.int .i64 b,.int .i64 r,.int .i64 cl,.str t]=>if cR c then some (0,[.str (L9 (k,c,m,w,b,r,cl,t))])else none
 | _=>none
def wE(k:Int)(c:Int)(m:Int)(w:Int)(b:Int)(r:Int)(cl:Int)(t:B2)(e:cR c):jP [.int .i64 k,.int .i64 c,.int .i64 m,.int .i64 w,.int .i64 b,.int .i64 r,.int .i64 cl,.str t]=some (0,[.str (L9 (k,c,m,w,b,r,cl,t))]):=A9 e
def pN(a0:Nat)(c:Nat):Tr:=.fn DZ [h3 1] 1<|.dt 11 (.mk 1) [h a0 9,h c 9]<|.fn aB [h (c+1) 11] 1<|.ret [h (c+2) 9]
def A0H(n:Nat):Tr:=pN 15 n
def A0G(n:Nat):Tr:=.fn aB [h 16 11] 1<|pN n (n+1)
def A5b:Tr:=kN 2 4 8 (.dt 11 (.mk 1) [.string ⟨⟨[]⟩⟩,.string ⟨⟨[67,45]⟩⟩]<|.fn aB [h 10 11] 1<|kN 2 2 12 (.dt 11 (.mk 1) [h 11 9,.string ⟨⟨[77,45]⟩⟩]<|.fn aB [h 14 11] 1<|kN 2 1 16 (.dt 11 (.mk 1) [h 15 9,.string ⟨⟨[83,45]⟩⟩]<|.fn aB [h 18 11] 1<|pN 19 20) (A0H 18)) (kN 2 1 14 (.dt 11 (.mk 1) [h 11 9,.string ⟨⟨[83,45]⟩⟩]<|A0G 17) (pN 11 16))) (kN 2 2 10 (.dt 11 (.mk 1) [.string ⟨⟨[]⟩⟩,.string ⟨⟨[77,45]⟩⟩]<|.fn aB [h 12 11] 1<|kN 2 1 14 (.dt 11 (.mk 1) [h 13 9,.string ⟨⟨[83,45]⟩⟩]<|A0G 17) (pN 13 16)) (kN 2 1 12 (.dt 11 (.mk 1) [.string ⟨⟨[]⟩⟩,.string ⟨⟨[83,45]⟩⟩]<|.fn aB [h 14 11] 1<|A0H 16) (.fn DZ [h3 1] 1<|.dt 11 (.mk 1) [.string ⟨⟨[]⟩⟩,h 14 9]<|.fn aB [h 15 11] 1<|.ret [h 16 9])))
def RD{G}(l:L2 G):M1 prog G 48 [.a [3,3,3,3,3,3,3,9]] jP [.s 9]:=by
 refine G3 (d:=60) A5b (cxg (B00.2 l) .nil) l ⟨f48,_,func48,rfl⟩ C8 C8 ?_;intro us outs f;unfold jP at f;split at f
 .skip;rename_i k c m w b r cl t;split at f
  .rename_i n;cases f;have o:=A17 c;unfold A5b;refine w0 (.cons 7 _ (.cons 6 _ (.cons 5 _ (.cons 4 _ (.cons 3 _ (.cons 2 _ (.cons 1 _ (.cons 0 _ (.nil))))))))) ?_;repeat (first|refine w2 (.mk 1) (r:=rS) (e:=tO [_,_] rfl E6 rfl) (k':=?_)|refine w31 aB (e:=wI _ ⟨UV (m:=1000000) rfl,by simp only[K3,K7,S3,L4,G4,M8,B8,C7,N1];omega⟩) (k':=?_)|refine w31 DZ (e:=A4M _ n) (k':=?_)|(refine w7 [.str _] ?_;rotate_left)|refine AP ?_|refine w4 (fun g=>?_) fun g=>?_|refine w1 (.bin .and) (e:=A30 _) (k':=?_)|refine w1 (.bin .and) (e:=A3z _) (k':=?_)|refine w1 (.bin .and) (e:=SP _) (k':=?_))
   all_goals
    refine F1 (fun z=>[U.str z]) ?_;unfold L9;first|rw[A9 (show m / 4%2*4=0 by omega)]|rw[A7 (show ¬m / 4%2*4=0 by omega)]
    first|rw[A9 (show m / 2%2*2=0 by omega)]|rw[A7 (show ¬m / 2%2*2=0 by omega)]
    first|rw[A9 (show m / 1%2*1=0 by omega)]|rw[A7 (show ¬m / 1%2*1=0 by omega)]
    simp only[K3,K7,S3,L4,G4,M8]<;>first|done|rfl
  .cases f
 .cases f
noncomputable def B1N:R3:=⟨_,fun c=>(.cons (A0g c) (.cons (RD c) .nil))⟩
def A6s:List U->Option (Nat×List U)
 | [.int .i64 k,.int .i64 c,.int .i64 m,.int .i64 w,.int .i64 b,.int .i64 r,.int .i64 cl,.str t]=>if -9223372036854775808<=m/\m<=9223372036854775807/\(t.length:Int)<=140737488351232 then some (0,[.str (yE (k,c,m,w,b,r,cl,t)),.int .i64 (lH (k,c,m,w,b,r,cl,t))])else none
 | _=>none
def A6r:Tr:=.fn rA [h3 0,h3 1,h3 2,h3 3,h3 4,h3 5,h3 6,h 7 9] 1<|bD 8 9 0 (.ret [.string ⟨⟨[]⟩⟩,h3 8]) (bD 0 10 1 (.ret [.string ⟨⟨[]⟩⟩,jI 2]) (.fn jP [h3 0,h3 1,h3 2,h3 3,h3 4,h3 5,h3 6,h 7 9] 1<|.ret [h 11 9,jI 0]))
def B1Y{G}(l:L2 G):M1 prog G 18 [.a [3,3,3,3,3,3,3,9]] A6s [.s 9,.s 3]:=by
 refine G3 (d:=60) A6r (cxg (B1N.2 l) .nil) l ⟨f18,_,func18,rfl⟩ C8 C8 ?_;intro us outs f;unfold A6s at f;split at f
 .skip;rename_i k c m w b r cl t;split at f
  .rename_i n;cases f;unfold A6r;refine w0 (.cons 7 _ (.cons 6 _ (.cons 5 _ (.cons 4 _ (.cons 3 _ (.cons 2 _ (.cons 1 _ (.cons 0 _ (.nil))))))))) ?_;repeat (first|(refine w7 [.str _,.int .i64 _] ?_;rotate_left)|refine AP ?_|refine w4 (fun g=>?_) fun g=>?_|refine w31 rA (e:=FP _ _ _ _ _ _ _ _ n) (k':=?_)|refine w31 jP (e:=wE _ _ _ _ _ _ _ _ (A9B (x:=(k,c,m,w,b,r,cl,t)) ‹_› ‹_›)) (k':=?_))
   all_goals
    first
    | exact A9A (x:=(k,c,m,w,b,r,cl,t)) ‹_›
    | exact A8_ (x:=(k,c,m,w,b,r,cl,t)) ‹_› ‹_›
    | exact A89 (x:=(k,c,m,w,b,r,cl,t)) ‹_› ‹_›
  .cases f
 .cases f
def niF(s:B2)(a:B2):Bool:=decide (a=s)
def hD(b:UInt8):Int:=if 48<=b.toNat/\b.toNat<=57 then b.toNat-48 else if 65<=b.toNat/\b.toNat<=70 then b.toNat-55 else -1
def hR:B2->Int->Option Int
 | [],n=>some n
 | b::l,n=>if hD b<0 then none else hR l (16*n+hD b)
def hE(s:B2)(i n:Int):Option Unit:=match hR (s.drop i.toNat) n with
 | some _=>none
 | none=>some ()
def hV(s:B2)(i n:Int):Int:=(hR (s.drop i.toNat) n).getD 0
def DM(s:B2):Int:=match I5 (niF s) nmL 0 with
 | some j=>1114113+j
 | none=>if s=[83,112,97,99,101]then 32 else if s.length=1 then((s.getD 0 0).toNat:Int)else if s.length<6∨8<s.length∨s.take 2≠[85,43]then -1 else(hR (s.drop 2) 0).getD (-1)
def B2e{s:B2}(h:I5 (niF s) nmL 0=some j):DM s=1114113+j:=by unfold DM;rw[h]
def B0F{s:B2}(h:I5 (niF s) nmL 0=none):DM s=if s=[83,112,97,99,101]then 32 else if s.length=1 then((s.getD 0 0).toNat:Int)else if s.length<6∨8<s.length∨s.take 2≠[85,43]then -1 else(hR (s.drop 2) 0).getD (-1):=by unfold DM;rw[h]
def A9D{s a:B2}(h:a=s):niF s a=true:=I3 h
def A0C{s a:B2}(h:¬a=s):niF s a=false:=D8 h
def stp(p:B2)(v:Int)(a:B2×Int):B2×Int:=if 2<a.1.length/\a.1.take 2=p then(a.1.drop 2,a.2+v)else a
def jX(s:B2):Xt:=(1,DM (stp [83,45] 1 (stp [77,45] 2 (stp [67,45] 4 (s,0)))).1,(stp [83,45] 1 (stp [77,45] 2 (stp [67,45] 4 (s,0)))).2,0,0,0,0,[])
def X0:Xt:=(0,0,0,0,0,0,0,[])
def qY(s:B2):Xt:=if kyP (jX s)/\L9 (jX s)=s then jX s else X0
def vS(s:B2):Int:=if kyP (jX s)/\L9 (jX s)=s then 0 else 6
def l9{l a2 a3 a4 a5 c n e f:Int}(h:x=(l,a2,a3,a4,a5,c,n,a8))(k:f=e):[U.int .i64 l,.int .i64 a2,.int .i64 a3,.int .i64 a4,.int .i64 a5,.int .i64 c,.int .i64 n,.str a8,.int .i64 e]=[U.int .i64 x.1,.int .i64 x.2.1,.int .i64 x.2.2.1,.int .i64 x.2.2.2.1,.int .i64 x.2.2.2.2.1,.int .i64 x.2.2.2.2.2.1,.int .i64 x.2.2.2.2.2.2.1,.str x.2.2.2.2.2.2.2,.int .i64 f]:=by subst h k;rfl
noncomputable def B09:R3:=⟨_,fun c=>(.cons (ZZ c) .nil)⟩
def rI:List U->Option (Nat×List U)
 | [u_l,.str v,.int .i64 n,.int .i64 i]=>(P0 rS u_l).bind fun l=>if n=((el l).length:Int)/\0<=i/\i<=n/\n<=140737488351232 then X5 (I5 (niF v) ((el l).drop i.toNat) i) [] (fun j=>[.int .i64 j])else none
 | _=>none
def rH(l:(Option (List B2)))(v:B2)(n:Int)(i:Int)(c:n=((el l).length:Int)/\0<=i/\i<=n/\n<=140737488351232):rI [E4 rS l,.str v,.int .i64 n,.int .i64 i]=X5 (I5 (niF v) ((el l).drop i.toNat) i) [] (fun j=>[.int .i64 j]):=by
 simp only[rI,I0,F5];exact A9 c
def A0t:S7:=⟨[(0,dat 17 0 11),(1,h 1 9),(7,h 2 3),(8,h 3 3)],[(17,.frz)],4,[⟨.exit 0,[],[],0⟩,⟨.ret,[(4,h 0 3)],[],1⟩]⟩
noncomputable def A0u:Code:=(f88.body).getD .skip
noncomputable def A50:Code:=match G8 [true,false,true,false] A0u with|some (.loop x)=>x|_=>.skip
def A0s:f88.body=some A0u:=rfl
def A0p:G8 [true,false,true,false] A0u=some (.loop A50):=C8
def A51:Tr:=Y1 3 2 4 (dG 0 3 5 (.lt 9 (.get 1 0) [h 0 11,h3 3]<|aE [h 1 9,h 6 9]<|.br 7 (.ret [jI 1,h3 3]) (aA [h3 3,jI 1]<|.ret [jI (-1),h 0 11,h 1 9,h3 2,h3 8]))) (I6 0)
def A0r:List U->Nat
 | [u_l,.str v,.int .i64 n,.int .i64 i]=>(match P0 rS u_l with|some l=>(n-i).toNat|none=>0)
 | _=>0
def A0q(l:(Option (List B2)))(v:B2)(n:Int)(i:Int):A0r [E4 rS l,.str v,.int .i64 n,.int .i64 i]=(n-i).toNat:=by
 simp only[A0r,I0]
def A52{G}(s:L2 G):∀ (E:Nat->U) (base:Nat),@R7 ⟨E,G⟩ prog base gl f88.ntmps A50 (O4 prog gl n0 18 A0t rI):=by
 refine V5 (dep:=60) (f:=88) (n0:=n0) (nB:=18) (H0:=H0) A0r A51 (cxg (B09.2 s) .nil) s func88 A0s A0p C8 C8 C8 ?_;intro us d outs k;have t:=k;unfold rI at k;split at k
 .skip;rename_i w v n i;have q:=B9.1 k;clear k;obtain⟨l,c,k⟩:=q;replace c:=K4 c;subst c;split at k
  .rename_i o;clear k t;refine⟨rfl,?_⟩;unfold A51;refine w0 (.cons 3 _ (.cons 2 _ (.cons 1 _ (.cons 0 _ (.nil))))) ?_;repeat (first|refine w4 (fun g=>?_) fun g=>?_|refine dJ ?_|refine Y4 ?_|refine dI ?_|refine eC ?_|refine w1 (.get 1 0) (u:=.str _) (e:=E1 rfl A2 A2 rfl) (k':=?_)|refine MO ?_|(refine w7 [.int .i64 _,.int .i64 _] ?_;rotate_left)|(refine w7 [.int .i64 _,E4 rS _,.str _,.int .i64 _,.int .i64 _] ?_;rotate_left)|(refine w8 ?_;first|omega)|(refine w7 [.int .i64 _] ?_;rotate_left))
   all_goals first
    | refine P3 ?_ ?_
      .rw[rH l v n (i+1) ⟨o.1,A2,A2,o.2.2.2⟩,rH l v n i o,Z5 (i:=i) o.2.1 A2 (A0C (fun h=>(by assumption:¬_=_) (by first|exact h|exact h.symm)))]
      .rw[A0q,A0q];omega
    | refine J0 (d:=0) ?_
      rw[rH l v n i o,s9 A2];rfl
    | refine J0 (d:=1) ?_
      rw[rH l v n i o,s8 (i:=i) o.2.1 A2 (A9D (by first|assumption|(symm;assumption)))];rfl
  .cases k
 .cases k
noncomputable def A2T:List LpE:=[(88,([true,false,true,false],O4 prog gl n0 18 A0t rI))]
def vH{G}(c:L2 G):Y6 prog G gl A2T:=(.cons func88 A0s A0p (A52 c) .nil)
def yH(c:Int):Int:=if c / 32%2=1 then c else c+32
def A7j{c:Int}(h0:0<=c)(h1:c<=255):IntKind.u8.wrap ((BitVec.ofInt IntKind.u8.bits c ||| BitVec.ofInt IntKind.u8.bits 32).toNat)=yH c:=by
 obtain⟨n,rfl⟩:∃ n:Nat,c=n:=⟨c.toNat,A2⟩;have e:n<256:=A2;have:((List.range 256).all fun n=>decide (IntKind.u8.wrap ((BitVec.ofInt IntKind.u8.bits (n:Int) ||| BitVec.ofInt IntKind.u8.bits 32).toNat)=yH n))=true:=C8;exact J4 (D4.1 this n (W4.2 e))
noncomputable def B01:R3:=⟨_,fun c=>.nil⟩
def yG:List U->Option (Nat×List U)
 | [.int .u8 c]=>if 0<=c/\c<=255 then some (0,[.int .u8 (yH c)])else none
 | _=>none
def A3S(c:Int)(e:0<=c/\c<=255):yG [.int .u8 c]=some (0,[.int .u8 (yH c)]):=A9 e
def A5d:Tr:=.lt 4 (.bin .or) [h 0 4,.int .u8 (32)]<|.ret [h 1 4]
def A5e{G}(f:L2 G):M1 prog G 126 [.s 4] yG [.s 4]:=by
 refine G3 (d:=60) A5d (cxg (B01.2 f) (vH f)) f ⟨f126,_,func126,rfl⟩ C8 C8 ?_;intro us outs k;unfold yG at k;split at k
 .skip;rename_i c;split at k
  .rename_i l;cases k;unfold A5d;refine w0 (.cons 0 _ (.nil)) ?_;repeat (first|refine w1 (.bin .or) (e:=OT 8 256 128 E6 E6 A2 A2 A2 A2 A2) (k':=?_)|refine w1 (.bin .or) (e:=A1O 8 256 128 E6 E6 A2 A2 A2 A2 A2) (k':=?_)|refine w1 (.bin .or) (e:=OT 16 65536 128 E6 E6 A2 A2 A2 A2 A2) (k':=?_)|refine w1 (.bin .or) (e:=A1O 16 65536 128 E6 E6 A2 A2 A2 A2 A2) (k':=?_)|refine w1 (.bin .or) (e:=SN _ _ _) (k':=?_)|(refine w7 [.int .u8 _] ?_;rotate_left))
   all_goals
    exact F1 (fun z=>[U.int .u8 z]) (A7j l.1 l.2)
  .cases k
 .cases k
def DN:List U->Option (Nat×List U)
 | [.str s]=>if(s.length:Int)<=140737488351232 then some (0,[.str (s)])else none
 | _=>none
def A4F(s:B2)(c:(s.length:Int)<=140737488351232):DN [.str s]=some (0,[.str (s)]):=A9 c
def A6e{G}(f:L2 G):M1 prog G 143 [.s 9] DN [.s 9]:=by
 intro us outs w vs R e c k hR;unfold DN at c;split at c
 .skip;rename_i s;split at c
  .rename_i l;cases c;have hv:=U9 (vs2:=[.string ⟨⟨s⟩⟩]) e rfl;subst hv;refine fW (vr:=[.string ⟨⟨s⟩⟩]) func143 rfl C8 rfl ?_;exact Tryz.stringslite_Clone ⟨⟨s⟩⟩ w (by show s.length<=_;omega)
  .cases c
 .cases c
def hv(c:Int):Int:=if 48<=c/\c<=57 then c-48 else if 65<=c/\c<=70 then c-55 else if 97<=c/\c<=102 then c-87 else -1
def pu:List Int->Int->Option Int
 | [],n=>some n
 | c::l,n=>if hv c<0 then none else pu l (n*16+hv c)
def puE(l:List Int)(n:Int):Option Int:=match pu l n with
 | none=>some 0
 | some _=>none
def puV(l:List Int)(n:Int):Int:=(pu l n).getD 0
def A7k{c:Int}(h0:0<=c)(h1:c<=255):0<=yH c/\yH c<=255:=by unfold yH;split<;>omega
def A7w{c:Int}(h0:0<=c)(h1:c<=255):hv c=if 48<=c/\c<=57 then c-48 else if 97<=yH c/\yH c<=102 then yH c-87 else -1:=by
 unfold hv yH;repeat' split;all_goals omega
def A3i{l:List Int}(h:∀ x ∈ l,0<=x/\x<=255)(i:Nat):0<=l.getD i default/\l.getD i default<=255:=by
 rw[B1];cases hx:l[i]? with
 | none=>decide
 | some x=>exact h x (D0 hx)
def A8z{l:List Int}{n:Int}(h0:0<=i)(h1:i<(l.length:Int)):pu (l.drop i.toNat) n=if hv (l.getD i.toNat default)<0 then none else pu (l.drop (i+1).toNat) (n*16+hv (l.getD i.toNat default)):=by
 rw[S2 l h0 h1];rfl
def A27{l:List Int}{n:Int}(h0:0<=i)(h1:i<(l.length:Int))(c:hv (l.getD i.toNat default)=d)(e:0<=d):puE (l.drop i.toNat) n=puE (l.drop (i+1).toNat) (n*16+d)/\puV (l.drop i.toNat) n=puV (l.drop (i+1).toNat) (n*16+d):=by
 unfold puE puV;rw[A8z h0 h1,c,A7 A2];exact⟨rfl,rfl⟩
def A7N{l:List Int}{n:Int}(h0:0<=i)(h1:i<(l.length:Int))(c:hv (l.getD i.toNat default)<0):puE (l.drop i.toNat) n=some 0:=by
 unfold puE;rw[A8z h0 h1,A9 c]
def A7O{l:List Int}{n:Int}(h1:(l.length:Int)<=i):puE (l.drop i.toNat) n=none/\puV (l.drop i.toNat) n=n:=by
 unfold puE puV;rw[show l.drop i.toNat=[]from R9 A2];exact⟨rfl,rfl⟩
def A7X(h0:0<=i)(h1:i<6):(16:Int) ^ (i+1).toNat=16*16 ^ i.toNat/\(16:Int) ^ i.toNat<=1048576:=by
 obtain⟨n,rfl⟩:∃ n:Nat,i=n:=⟨i.toNat,A2⟩;have:n=0∨n=1∨n=2∨n=3∨n=4∨n=5:=A2;rcases this with rfl|rfl|rfl|rfl|rfl|rfl<;>decide
noncomputable def B0t:R3:=⟨_,fun c=>(.cons (A5e c) (.cons (A6e c) .nil))⟩
def nY:List U->Option (Nat×List U)
 | [.str z0,.int .u64 n,u_b,.int .i64 k,.int .i64 i]=>(P0 rB u_b).bind fun b=>if k=((el b).length:Int)/\0<=i/\i<=k/\k<=6/\(∀ x ∈ el b,0<=x/\x<=255)/\0<=n/\n<16 ^ i.toNat then X5 (puE ((el b).drop i.toNat) n) [.int .u64 (puV ((el b).drop i.toNat) n),.str z0] (fun j=>[.int .u64 j])else none
 | _=>none
def qP(z0:B2)(n:Int)(b:sO)(k:Int)(i:Int)(c:k=((el b).length:Int)/\0<=i/\i<=k/\k<=6/\(∀ x ∈ el b,0<=x/\x<=255)/\0<=n/\n<16 ^ i.toNat):nY [.str z0,.int .u64 n,E4 rB b,.int .i64 k,.int .i64 i]=X5 (puE ((el b).drop i.toNat) n) [.int .u64 (puV ((el b).drop i.toNat) n),.str z0] (fun j=>[.int .u64 j]):=by
 simp only[nY,I0,F5];exact A9 c
def A5I:S7:=⟨[(1,.int .i64 (16)),(8,.bool false),(9,h 0 9),(10,.int .u64 (1152921504606846976)),(11,.int .u64 (4294967295)),(12,.bool false),(13,h 1 7),(99,own 19 2 11),(100,h 3 3),(101,h 4 3)],[(19,.sq 2 11 5 20),(20,.frz)],5,[⟨.exit 3,[(13,h 0 7),(12,.bool false),(9,h 1 9)],[],2⟩,⟨.ret,[(6,h 0 7),(7,.iface 174 (.int .i64 (2)))],[],1⟩]⟩
noncomputable def YZ:Code:=(f109.body).getD .skip
noncomputable def A5E:Code:=match G8 [true,true,true,true,true,true,true,true,true,true,true,false,true,false] YZ with|some (.loop x)=>x|_=>.skip
def A5H:f109.body=some YZ:=rfl
def A5G:G8 [true,true,true,true,true,true,true,true,true,true,true,false,true,false] YZ=some (.loop A5E):=C8
def YW(n:Nat):Tr:=.fn yG [h 7 4] 1<|aQ [.int .u8 (97),h n 4]<|.br (n+1) (.fn yG [h 7 4] 1<|aQ [h (n+2) 4,.int .u8 (122)]<|.br (n+3) (.fn yG [h 7 4] 1<|.lt 4 (.bin .sub) [h (n+4) 4,.int .u8 (97)]<|.lt 4 (.bin .add) [h (n+5) 4,.int .u8 (10)]<|aH [h (n+6) 4,.int .u8 (16)]<|.br (n+7) (.ret [jI 1,.int .u64 (0)]) (aH [h 1 7,.int .u64 (1152921504606846976)]<|.br (n+8) (.no) (.lt 7 (.bin .mul) [h 1 7,.int .u64 (16)]<|.lt 7 (.conv .u64) [h (n+6) 4]<|.lt 7 (.bin .add) [h (n+9) 7,h (n+10) 7]<|aL [h (n+11) 7,h (n+9) 7]<|.br (n+12) (.no) (aG [h (n+11) 7,.int .u64 (4294967295)]<|.br (n+13) (.no) (aA [h3 4,jI 1]<|.ret [jI (-1),h 0 9,h (n+11) 7,h 2 11,h3 3,h3 (n+14)]))))) (.ret [jI 1,.int .u64 (0)])) (.ret [jI 1,.int .u64 (0)])
def YV(n:Nat):Tr:=aQ [.int .u8 (48),h 7 4]<|.br n (aQ [h 7 4,.int .u8 (57)]<|.br (n+1) (.lt 4 (.bin .sub) [h 7 4,.int .u8 (48)]<|aH [h (n+2) 4,.int .u8 (16)]<|.br (n+3) (.ret [jI 1,.int .u64 (0)]) (aH [h 1 7,.int .u64 (1152921504606846976)]<|.br (n+4) (.no) (.lt 7 (.bin .mul) [h 1 7,.int .u64 (16)]<|.lt 7 (.conv .u64) [h (n+2) 4]<|.lt 7 (.bin .add) [h (n+5) 7,h (n+6) 7]<|aL [h (n+7) 7,h (n+5) 7]<|.br (n+8) (.no) (aG [h (n+7) 7,.int .u64 (4294967295)]<|.br (n+9) (.no) (aA [h3 4,jI 1]<|.ret [jI (-1),h 0 9,h (n+7) 7,h 2 11,h3 3,h3 (n+10)]))))) (YW (n+2))) (YW (n+1))
def A5F:Tr:=Y1 4 3 5 (dG 2 4 6 (.lt 4 (.get 1 0) [h 2 11,h3 4]<|aE [h 7 4,.int .u8 (95)]<|.br 8 (YV 9) (YV 9))) (.ret [jI 0,h 1 7,h 0 9])
def YY:List U->Nat
 | [.str z0,.int .u64 n,u_b,.int .i64 k,.int .i64 i]=>(match P0 rB u_b with|some b=>(k-i).toNat|none=>0)
 | _=>0
def YX(z0:B2)(n:Int)(b:sO)(k:Int)(i:Int):YY [.str z0,.int .u64 n,E4 rB b,.int .i64 k,.int .i64 i]=(k-i).toNat:=by
 simp only[YY,I0]
def A8y{G}(s:L2 G):∀ (E:Nat->U) (base:Nat),@R7 ⟨E,G⟩ prog base gl f109.ntmps A5E (O4 prog gl n0 21 A5I nY):=by
 refine V5 (dep:=60) (f:=109) (n0:=n0) (nB:=21) (H0:=H0) YY A5F (cxg (B0t.2 s) (vH s)) s func109 A5H A5G C8 C8 C8 ?_;intro us d outs o;have A:=o;unfold nY at o;split at o
 .skip;rename_i z0 n D k i;have t:=B9.1 o;clear o;obtain⟨b,l,o⟩:=t;replace l:=K4 l;subst l;split at o
  .rename_i c;clear o A;have w:=A3i c.2.2.2.2.1 i.toNat;have hh:=A7w w.1 w.2;have I:=A7k w.1 w.2;have B:=fun h=>A7X (i:=i) c.2.1 h
   refine⟨rfl,?_⟩;unfold A5F;refine w0 (.cons 4 _ (.cons 3 _ (.cons 2 _ (.cons 1 _ (.cons 0 _ (.nil)))))) ?_;repeat (first|refine w4 (fun g=>?_) fun g=>?_|refine dJ ?_|refine Y4 ?_|(refine w8 ?_;first|omega|(have B:=A7X (i:=i) c.2.1 A2;omega))|(refine w7 [.int .i64 _,.int .u64 _] ?_;rotate_left)|refine pS ?_|refine WC ?_|refine HU ?_|refine kO ?_|refine B1c ?_|refine A8g ?_|refine HW ?_|refine wX ?_|refine w31 yG (e:=A3S _ A2) (k':=?_)|refine dI ?_|refine AQ ?_|(refine w7 [.int .i64 _,.str _,.int .u64 _,E4 rB _,.int .i64 _,.int .i64 _] ?_;rotate_left)|refine eC ?_|refine w1 (.get 1 0) (u:=.int .u8 _) (e:=E1 rfl A2 A2 rfl) (k':=?_)|refine fE ?_|(refine w7 [.int .i64 _,.int .u64 _,.str _] ?_;rotate_left))
   all_goals first
    | refine P3 ?_ ?_
      .have B:=A7X (i:=i) c.2.1 A2;have F:∀ d,hv ((el b).getD i.toNat default)=d->0<=d->d<16->nY [.str z0,.int .u64 (n*16+d),E4 rB b,.int .i64 k,.int .i64 (i+1)]=nY [.str z0,.int .u64 n,E4 rB b,.int .i64 k,.int .i64 i]:=fun d H C h3=>by
        have q:=A27 (n:=n) c.2.1 (by omega:i<((el b).length:Int)) H C;rw[qP _ _ _ _ _ ⟨c.1,A2,A2,c.2.2.2.1,c.2.2.2.2.1,A2,A2⟩,qP _ _ _ _ _ c,q.1,q.2]
       exact F _ A2 A2 A2
      .rw[YX,YX];omega
    | refine J0 (d:=0) ?_
      have q:=A7O (n:=n) (by omega:((el b).length:Int)<=i);rw[qP _ _ _ _ _ c,q.1,q.2];rfl
    | refine J0 (d:=1) ?_
      rw[qP _ _ _ _ _ c,A7N c.2.1 A2 A2];rfl
  .cases o
 .cases o
noncomputable def A2S:List LpE:=[(109,([true,true,true,true,true,true,true,true,true,true,true,false,true,false],O4 prog gl n0 21 A5I nY)),(88,([true,false,true,false],O4 prog gl n0 18 A0t rI))]
def MD{G}(c:L2 G):Y6 prog G gl A2S:=(.cons func109 A5H A5G (A8y c) (.cons func88 A0s A0p (A52 c) .nil))
def puB(s:B2):Int:=if s=[]then -1 else(pu (bI s) 0).getD (-1)
def jW(s:B2):Int:=match I5 (niF s) nmL 0 with
 | some j=>1114113+j
 | none=>if s=[83,112,97,99,101]then 32 else if s.length=1 then((s.getD 0 0).toNat:Int)else if s.take 2=[85,43]/\s.length<=8 then puB (s.drop 2)else -1
def A6O{α:Type}{p:α->Bool}:∀ {l:List α} {i j:Int},I5 p l i=some j->i<=j/\j<i+l.length
 | [],i,j,h=>by cases h
 | a::l,i,j,h=>by
   unfold I5 at h;split at h
   .cases h;simp only[C7];omega
   .have:=A6O h;simp only[C7];omega
def A5Y{s:B2}(h:I5 (niF s) (List.drop (0:Int).toNat (el (some nmL))) 0=some v):0<=v/\v<26:=by
 have:=A6O h;have e:((List.drop (0:Int).toNat (el (some nmL))).length:Int)=26:=rfl;omega
def B0U(s:B2):∀ x ∈ el (some (bI s)),0<=x/\x<=255:=fun x h=>by have:=A2E (s:=s) h;omega
def B0V{s:B2}{n:Int}(h:(s.length:Int)<=n):((el (some (bI s))).length:Int)<=n:=by show((bI s).length:Int)<=n;rw[oV];exact h
def B0G{s:B2}(h:I5 (niF s) nmL 0=some v):jW s=1114113+v:=by unfold jW;rw[h]
def VD{s:B2}(h:I5 (niF s) nmL 0=none):jW s=if s=[83,112,97,99,101]then 32 else if s.length=1 then((s.getD 0 0).toNat:Int)else if s.take 2=[85,43]/\s.length<=8 then puB (s.drop 2)else -1:=by unfold jW;rw[h]
def A5J:∀ {l:List Int} {n v:Int},0<=n->pu l n=some v->0<=v/\v<(n+1)*16 ^ l.length
 | [],n,v,h0,h=>by cases h;simp;omega
 | c::l,n,v,h0,h=>by
   unfold pu at h;split at h
   .cases h
   .have e:hv c<16:=by unfold hv;(repeat' split)<;>omega
    have q:=A5J A2 h;have hp:(0:Int)<=16 ^ l.length:=Int.le_of_lt (Int.pow_pos E6);have hm:=Int.mul_le_mul_of_nonneg_right (show n*16+hv c+1<=(n+1)*16 by omega) hp;rw[Int.mul_assoc]at hm;rw[C7,Int.pow_succ,Int.mul_comm ((16:Int) ^ l.length) 16];omega
def B1w{s:B2}(f:(s.length:Int)<=6)(h:puE (List.drop (0:Int).toNat (el (some (bI s)))) 0=none):IntKind.i64.wrap (puV (List.drop (0:Int).toNat (el (some (bI s)))) 0)=(pu (bI s) 0).getD (-1):=by
 have e:List.drop (0:Int).toNat (el (some (bI s)))=bI s:=rfl;rw[e]at h ⊢;unfold puE at h;unfold puV;cases c:pu (bI s) 0 with
 | none=>rw[c]at h;cases h
 | some v =>
   have q:=A5J E6 c;rw[oV]at q;have k:(16:Int) ^ s.length<=16 ^ 6:=by
    have:=cL (n:=16) E6 (show s.length<=6 by omega)
    exact_mod_cast this
   show IntKind.i64.wrap v=v;exact iH A2 A2
def B1v{s:B2}(h:puE (List.drop (0:Int).toNat (el (some (bI s)))) 0=some j):(pu (bI s) 0).getD (-1) = -1:=by
 have e:List.drop (0:Int).toNat (el (some (bI s)))=bI s:=rfl;rw[e]at h;unfold puE at h;cases c:pu (bI s) 0 with
 | none=>rfl
 | some v=>rw[c]at h;cases h
def A80{s:B2}(h:s=[]):puB s = -1:=A9 h
def ZA{s:B2}(h:¬s=[]):puB s=(pu (bI s) 0).getD (-1):=A7 h
def A8Q{s:B2}(h:I5 (niF s) nmL 0=none)(h1:¬s=[83,112,97,99,101])(e:¬(s.length:Int)=1)(h3:¬¬List.take ((2:Int).toNat-(0:Int).toNat) (List.drop (0:Int).toNat s)=[85,43])(c:((List.drop (2:Int).toNat s).length:Int)<=6):jW s=puB (List.drop (2:Int).toNat s):=by
 rw[VD h,A7 h1,A7 A2,A9 ⟨D9.1 h3,by rw[E9]at c;simp at c;omega⟩];rfl
def A8P{s:B2}(h:I5 (niF s) nmL 0=none)(h1:¬s=[83,112,97,99,101])(c:¬(s.length:Int)=1)(h3:¬(s.take 2=[85,43]/\s.length<=8)):jW s = -1:=by
 rw[VD h,A7 h1,A7 A2,A7 h3]
def B2h{s:B2}(h:I5 (niF s) nmL 0=none)(h1:¬s=[83,112,97,99,101])(c:(s.length:Int)=1):jW s=((s.getD 0 0).toNat:Int):=by
 rw[VD h,A7 h1,A9 A2]
def B2g{s:B2}(h:¬2<=(s.length:Int)):¬(s.take 2=[85,43]/\s.length<=8):=fun k=>by have:=F1 List.length k.1;rw[I7]at this;simp at this;omega
def B2f{s:B2}(h:¬((List.drop (2:Int).toNat s).length:Int)<=6):¬(s.take 2=[85,43]/\s.length<=8):=fun k=>by rw[E9]at h;have:=k.2;simp at h;omega
noncomputable def B1I:R3:=⟨_,fun c=>(.cons (ZZ c) (.cons (A5e c) (.cons (A6e c) .nil)))⟩
def LO:List U->Option (Nat×List U)
 | [.str s]=>if(s.length:Int)<=140737488351232 then some (0,[.int .i64 (jW s)])else none
 | _=>none
def A4E(s:B2)(c:(s.length:Int)<=140737488351232):LO [.str s]=some (0,[.int .i64 (jW s)]):=A9 c
def A1v(n:Nat):Tr:=aE [h 0 9,.string ⟨⟨[83,112,97,99,101]⟩⟩]<|.br n (I6 32) (aD [h 0 9]<|J7 (n+1) (n+2) 1 (.lt 4 (.idx) [h 0 9,jI 0]<|.lt 3 (.conv .i64) [h (n+3) 4]<|.ret [h3 (n+4)]) (I6 (-1)))
def u6(a0:Int)(e:Nat)(a2:Nat)(f c:Tr):Tr:=aD [h e 9]<|aH [h3 a2,jI a0]<|.br (a2+1) f c
def A1u(n:Nat):Tr:=u6 2 0 n (.lt 9 (.sub) [h 0 9,jI 0,jI 2]<|aE [h (n+2) 9,.string ⟨⟨[85,43]⟩⟩]<|M5 (n+3) (n+4) (A1v (n+5)) (.lt 9 (.sub1) [h 0 9,jI 2]<|aE [h 0 9,.string ⟨⟨[83,112,97,99,101]⟩⟩]<|.br (n+6) (I6 32) (aD [h 0 9]<|J7 (n+7) (n+8) 1 (.lt 4 (.idx) [h 0 9,jI 0]<|.lt 3 (.conv .i64) [h (n+9) 4]<|.ret [h3 (n+10)]) (aD [h (n+5) 9]<|R5 (n+9) (n+10) 6 (aE [h (n+5) 9,.string ⟨⟨[]⟩⟩]<|.br (n+11) (.fn DN [h (n+5) 9] 1<|I6 (-1)) (.dt 11 (.byt) [h (n+5) 9]<|aD [h (n+12) 11]<|.lp nY [h (n+5) 9,.int .u64 (0),h (n+12) 11,h3 (n+13),jI 0] 0 2 (.lt 3 (.conv .i64) [h (n+14) 7]<|.ret [h3 (n+16)]) (.lp nY [h (n+5) 9,.int .u64 (0),h (n+12) 11,h3 (n+13),jI 0] 1 1 (.fn DN [h (n+5) 9] 1<|I6 (-1)) (.no)))) (I6 (-1)))))) (A1v (n+2))
def A6d:Tr:=.fn yD [] 1<|aD [h 1 11]<|.lp rI [h 1 11,h 0 9,h3 2,jI 0] 0 0 (A1u 3) (.lp rI [h 1 11,h 0 9,h3 2,jI 0] 1 1 (K8 3 4 0 (aA [jI 1114113,h3 3]<|.ret [h3 5]) (A1u 5)) (.no))
def B0I{G}(c:L2 G):M1 prog G 51 [.s 9] LO [.s 3]:=by
 refine G3 (d:=60) A6d (cxg (B1I.2 c) (MD c)) c ⟨f51,_,func51,rfl⟩ C8 C8 ?_;intro us outs f;unfold LO at f;split at f
 .skip;rename_i s;split at f
  .rename_i l;cases f;have n:=VZ (s.getD (0:Int).toNat 0);unfold A6d;refine w0 (.cons 0 _ (.nil)) ?_;repeat (first|(refine w7 [.int .i64 _] ?_;rotate_left)|refine w4 (fun g=>?_) fun g=>?_|refine HW ?_|refine wX ?_|refine kE ?_|refine MO ?_|refine fE ?_|refine w1 (.idx) (e:=OU _ _ _ A2 A2) (k':=?_)|refine w31 DN (e:=A4F _ A2) (k':=?_)|refine jL ?_|refine kO ?_|refine w1 (.sub) (e:=nK _ _ _ _ _ A2 A2 A2) (k':=?_)|refine o7 ?_|refine w1 (.sub1) (e:=nJ _ _ _ A2 A2) (k':=?_)|refine pS ?_|refine w2 (.byt) (r:=rB) (e:=A3y _ rfl) (k':=?_)|(refine w6 nY (qP _ _ _ _ _ ⟨by first|rfl,E6,by first|omega,by first|exact B0V ‹_›,by first|exact B0U _,E6,E6⟩) (h0:=fun g=>?_) (h1:=fun v g=>?_);show Wk _ _ (.cons _ _ (.cons _ _ _));rotate_left;show Wk _ _ (.cons _ _ _);rotate_right)|refine dJ ?_|refine Y4 ?_|refine w31 yD (e:=RA ) (k':=?_)|(refine w6 rI (rH _ _ _ _ ⟨rfl,E6,by show(0:Int)<=26;decide,by show(26:Int)<=_;decide⟩) (h0:=fun g=>?_) (h1:=fun v g=>?_);skip;rotate_left;show Wk _ _ (.cons _ _ _);rotate_right))
   all_goals
    refine l0 ?_;symm;first
    | (exfalso;have:=A5Y ‹_›;omega)
    | (have hv:=A5Y ‹_›;rw[B0G ‹_›];first|done|(symm;exact iH A2 A2))
    | (rw[VD ‹_›,A9 ‹_›];done)
    | (rw[B2h ‹_› ‹_› ‹_›];first|rfl|(symm;exact iH A2 A2))
    | (rw[A8Q ‹_› ‹_› ‹_› ‹_› ‹_›,A80 ‹_›];done)
    | (rw[A8Q ‹_› ‹_› ‹_› ‹_› ‹_›,ZA ‹_›,B1w ‹_› ‹_›];done)
    | (rw[A8Q ‹_› ‹_› ‹_› ‹_› ‹_›,ZA ‹_›,B1v ‹_›];done)
    | exact A8P ‹_› ‹_› ‹_› (B2g ‹_›)
    | exact A8P ‹_› ‹_› ‹_› (B2f ‹_›)
    | exact A8P ‹_› ‹_› ‹_› (fun k=>(by assumption:¬List.take ((2:Int).toNat-(0:Int).toNat) (List.drop (0:Int).toNat s)=[85,43]) k.1)
  .cases f
 .cases f
def cZ(s:B2):Xt:=(1,jW (stp [83,45] 1 (stp [77,45] 2 (stp [67,45] 4 (s,0)))).1,(stp [83,45] 1 (stp [77,45] 2 (stp [67,45] 4 (s,0)))).2,0,0,0,0,[])
def kpO(s:B2):Xt:=if kyP (cZ s)/\L9 (cZ s)=s then cZ s else X0
def kpE(s:B2):Int:=if kyP (cZ s)/\L9 (cZ s)=s then 0 else 6
def A9N{s:B2}{X:Xt}(e:cZ s=X)(h1:kyP X)(c:¬L9 X≠s):kpO s=X/\kpE s=0:=by
 unfold kpO kpE;rw[e,A9 ⟨h1,D9.1 c⟩,A9 ⟨h1,D9.1 c⟩];exact⟨rfl,rfl⟩
def A9P{s:B2}{X:Xt}(c:cZ s=X)(h1:¬kyP X):kpO s=X0/\kpE s=6:=by
 unfold kpO kpE;rw[c,A7 (fun k=>h1 k.1),A7 (fun k=>h1 k.1)];exact⟨rfl,rfl⟩
def A9O{s:B2}{X:Xt}(e:cZ s=X)(c:L9 X≠s):kpO s=X0/\kpE s=6:=by
 unfold kpO kpE;rw[e,A7 (fun k=>c k.2),A7 (fun k=>c k.2)];exact⟨rfl,rfl⟩
def A7A{s:B2}(v:Int)(h:¬2<=(s.length:Int)):stp p v (s,m)=(s,m):=A7 fun k=>h (by have:2<s.length:=k.1;omega)
def A6_{s:B2}(v:Int)(h:¬List.take ((2:Int).toNat-(0:Int).toNat) (List.drop (0:Int).toNat s)=p):stp p v (s,m)=(s,m):=A7 fun k=>h k.2
def A69{s:B2}(v:Int)(h:List.drop (2:Int).toNat s=[]):stp p v (s,m)=(s,m):=A7 fun k=>by have:=F1 List.length h;rw[E9]at this;have h3:2<s.length:=k.1;simp at this;omega
def A68{s:B2}(v:Int)(h:¬¬List.take ((2:Int).toNat-(0:Int).toNat) (List.drop (0:Int).toNat s)=p)(c:¬List.drop (2:Int).toNat s=[]):stp p v (s,m)=(List.drop (2:Int).toNat s,m+v):=A9 ⟨by show 2<s.length;exact Nat.lt_of_not_le fun k=>c (R9 k),D9.1 h⟩
noncomputable def B0y:R3:=⟨_,fun c=>(.cons (B0I c) (.cons (A07 c) (.cons (RD c) .nil)))⟩
def qU:List U->Option (Nat×List U)
 | [.str s]=>if(s.length:Int)<=140737488351232 then some (0,[.int .i64 ((kpO s).1),.int .i64 ((kpO s).2.1),.int .i64 ((kpO s).2.2.1),.int .i64 ((kpO s).2.2.2.1),.int .i64 ((kpO s).2.2.2.2.1),.int .i64 ((kpO s).2.2.2.2.2.1),.int .i64 ((kpO s).2.2.2.2.2.2.1),.str ((kpO s).2.2.2.2.2.2.2),.int .i64 (kpE s)])else none
 | _=>none
def QV(s:B2)(c:(s.length:Int)<=140737488351232):qU [.str s]=some (0,[.int .i64 ((kpO s).1),.int .i64 ((kpO s).2.1),.int .i64 ((kpO s).2.2.1),.int .i64 ((kpO s).2.2.2.1),.int .i64 ((kpO s).2.2.2.2.1),.int .i64 ((kpO s).2.2.2.2.2.1),.int .i64 ((kpO s).2.2.2.2.2.2.1),.str ((kpO s).2.2.2.2.2.2.2),.int .i64 (kpE s)]):=A9 c
def Q7:Tr:=.ret [jI 0,jI 0,jI 0,jI 0,jI 0,jI 0,jI 0,.string ⟨⟨[]⟩⟩,jI 6]
def bQ(a0:Int)(c:Nat):Tr:=.ret [jI 1,h3 c,jI a0,jI 0,jI 0,jI 0,jI 0,.string ⟨⟨[]⟩⟩,jI 0]
def bR(a0:Int)(c:Nat)(f e:Tr):Tr:=.fn jP [jI 1,h3 c,jI a0,jI 0,jI 0,jI 0,jI 0,.string ⟨⟨[]⟩⟩] 1<|aN [h (c+3) 9,h 0 9]<|.br (c+4) f e
def bS(a0:Int)(e:Nat)(a2:Nat)(f c:Tr):Tr:=.fn LO [h e 9] 1<|.fn rM [jI 1,h3 a2,jI a0,jI 0,jI 0,jI 0,jI 0,.string ⟨⟨[]⟩⟩] 1<|aX [h (a2+1) 8]<|.br (a2+2) f c
def NU(n:Nat):Tr:=bS 0 0 n Q7 (bR 0 n Q7 (bQ 0 n))
def fK(a0:Int)(e:Nat)(a2:Nat)(f c:Tr):Tr:=.lt 9 (.sub1) [h e 9,jI a0]<|aN [h a2 9,.string ⟨⟨[]⟩⟩]<|.br (a2+1) f c
def vW(a0:Nat)(c:Nat)(f e:Tr):Tr:=.lt 9 (.sub) [h a0 9,jI 0,jI 2]<|aE [h c 9,.string ⟨⟨[83,45]⟩⟩]<|aX [h (c+1) 8]<|.br (c+2) f e
def NT(n:Nat):Tr:=u6 2 0 n (vW 0 (n+2) (NU (n+5)) (fK 2 0 (n+5) (bS 1 (n+5) (n+7) Q7 (bR 1 (n+7) Q7 (bQ 1 (n+7)))) (NU (n+7)))) (NU (n+2))
def NS(n:Nat):Tr:=u6 2 0 n (.lt 9 (.sub) [h 0 9,jI 0,jI 2]<|aE [h (n+2) 9,.string ⟨⟨[77,45]⟩⟩]<|M5 (n+3) (n+4) (NT (n+5)) (fK 2 0 (n+5) (u6 2 (n+5) (n+7) (vW (n+5) (n+9) (bS 2 (n+5) (n+12) Q7 (bR 2 (n+12) Q7 (bQ 2 (n+12)))) (fK 2 (n+5) (n+12) (bS 3 (n+12) (n+14) Q7 (bR 3 (n+14) Q7 (bQ 3 (n+14)))) (bS 2 (n+5) (n+14) Q7 (bR 2 (n+14) Q7 (bQ 2 (n+14)))))) (bS 2 (n+5) (n+9) Q7 (bR 2 (n+9) Q7 (bQ 2 (n+9))))) (NT (n+7)))) (NT (n+2))
def NR(n:Nat):Tr:=bS 4 6 n Q7 (bR 4 n Q7 (bQ 4 n))
def NQ(n:Nat):Tr:=u6 2 6 n (vW 6 (n+2) (NR (n+5)) (fK 2 6 (n+5) (bS 5 (n+5) (n+7) Q7 (bR 5 (n+7) Q7 (bQ 5 (n+7)))) (NR (n+7)))) (NR (n+2))
def NP(n:Nat):Tr:=bS 6 13 n Q7 (bR 6 n Q7 (bQ 6 n))
def A5X:Tr:=u6 2 0 1 (.lt 9 (.sub) [h 0 9,jI 0,jI 2]<|aE [h 3 9,.string ⟨⟨[67,45]⟩⟩]<|M5 4 5 (NS 6) (fK 2 0 6 (u6 2 6 8 (.lt 9 (.sub) [h 6 9,jI 0,jI 2]<|aE [h 10 9,.string ⟨⟨[77,45]⟩⟩]<|M5 11 12 (NQ 13) (fK 2 6 13 (u6 2 13 15 (vW 13 17 (NP 20) (fK 2 13 20 (bS 7 20 22 Q7 (bR 7 22 Q7 (bQ 7 22))) (NP 22))) (NP 17)) (NQ 15))) (NQ 10)) (NS 8))) (NS 3)
def QW{G}(k:L2 G):M1 prog G 20 [.s 9] qU [.a [3,3,3,3,3,3,3,9],.s 3]:=by
 refine G3 (d:=60) A5X (cxg (B0y.2 k) .nil) k ⟨f20,_,func20,rfl⟩ C8 C8 ?_;intro us outs f;unfold qU at f;split at f
 .skip;rename_i s;split at f
  .rename_i l;cases f;unfold A5X;refine w0 (.cons 0 _ (.nil)) ?_;repeat (first|refine w4 (fun g=>?_) fun g=>?_|refine w4B (fun g=>?_) fun g=>?_|(refine w7 [.int .i64 _,.int .i64 _,.int .i64 _,.int .i64 _,.int .i64 _,.int .i64 _,.int .i64 _,.str _,.int .i64 _] ?_;rotate_left)|refine o7 ?_|refine pM ?_|refine A2h ?_|refine w31 LO (e:=A4E _ (by first|omega|(simp only[E9];omega))) (k':=?_)|refine w31 rM (e:=FX _ _ _ _ _ _ _ _ ⟨E6,E6,UV (m:=140737488351232) rfl⟩) (k':=?_)|refine w31 jP (e:=wE _ _ _ _ _ _ _ _ (yQ (x:=(1,jW _,_,0,0,0,0,[])) (D9.1 ‹_›))) (k':=?_)|refine kE ?_|refine kO ?_|refine w1 (.sub) (e:=nK _ _ _ _ _ A2 A2 (by first|omega|(simp only[E9]at *;omega))) (k':=?_)|refine MO ?_|refine w1 (.sub1) (e:=nJ _ _ _ A2 (by first|omega|(simp only[E9];omega))) (k':=?_))
   all_goals
    first
    | (exfalso;omega)
    | contradiction
    | (have c:cZ s=cZ s:=rfl
       conv at c=>rhs;unfold cZ
       first|rw[A7A (p:=[67,45]) 4 ‹_›]at c|rw[A6_ (p:=[67,45]) 4 ‹_›]at c|rw[A69 (p:=[67,45]) 4 (by first|assumption|exact D9.1 ‹_›)]at c|rw[A68 (p:=[67,45]) 4 ‹_› (by first|assumption|exact D9.1 ‹_›)]at c
       first|rw[A7A (p:=[77,45]) 2 ‹_›]at c|rw[A6_ (p:=[77,45]) 2 ‹_›]at c|rw[A69 (p:=[77,45]) 2 (by first|assumption|exact D9.1 ‹_›)]at c|rw[A68 (p:=[77,45]) 2 ‹_› (by first|assumption|exact D9.1 ‹_›)]at c
       first|rw[A7A (p:=[83,45]) 1 ‹_›]at c|rw[A6_ (p:=[83,45]) 1 ‹_›]at c|rw[A69 (p:=[83,45]) 1 (by first|assumption|exact D9.1 ‹_›)]at c|rw[A68 (p:=[83,45]) 1 ‹_› (by first|assumption|exact D9.1 ‹_›)]at c
       first
       | exact l9 (A9P c ‹_›).1 (A9P c ‹_›).2
       | exact l9 (A9O c ‹_›).1 (A9O c ‹_›).2
       | exact l9 (A9N c (D9.1 ‹_›) ‹_›).1 (A9N c (D9.1 ‹_›) ‹_›).2
)
  .cases f
 .cases f
def spl(c:UInt8):Nat->List B2->B2->Nat->List B2×B2×Nat
 | 0,a,s,i=>(a,s,i)
 | k+1,a,s,i=>if Lib.indexByte s c<0 then(a,s,i)else spl c k (a.set i (s.take (Lib.indexByte s c).toNat)) (s.drop ((Lib.indexByte s c).toNat+1)) (i+1)
def parts(s:B2)(c:UInt8):List B2 :=
 let n:=min (s.count c+1) (s.length+1)
 let r:=spl c (n-1) (List.replicate n []) s 0
 (r.1.set r.2.2 r.2.1).take (r.2.2+1)
def ON:∀ {s:B2} {c:UInt8},0<=Lib.indexByte s c->s=s.take (Lib.indexByte s c).toNat++c::s.drop ((Lib.indexByte s c).toNat+1)/\(Lib.indexByte s c).toNat<s.length/\s.count c=(s.drop ((Lib.indexByte s c).toNat+1)).count c+1
 | [],c,h=>by simp[Lib.indexByte]at h
 | b::l,c,h=>by
   have n:=Lib.indexByte_ge l c;unfold Lib.indexByte at h ⊢;split at h
   .rename_i f;rw[A9 f]
    have:=eq_of_beq f;subst this;simp
   .rename_i f;split at h
    .omega
    .rename_i h1;have h1:¬Lib.indexByte l c = -1:=by simpa using h1
     have k:0<=Lib.indexByte l c:=A2;obtain⟨i1,i2,i3⟩:=ON k;rw[A7 f,A7 (by simpa using h1)];have e:(Lib.indexByte l c+1).toNat=(Lib.indexByte l c).toNat+1:=A2;rw[e];refine⟨?_,?_,?_⟩
     .rw[List.take_succ_cons,List.drop_succ_cons,S4,<- i1]
     .rw[C7];omega
     .rw[List.drop_succ_cons,List.count_cons_of_ne (by simpa using f),i3]
def A08:∀ {s:B2} {c:UInt8},Lib.indexByte s c<0->s.count c=0
 | [],_,_=>rfl
 | b::l,c,h=>by
   have f:=Lib.indexByte_ge l c;unfold Lib.indexByte at h;split at h
   .omega
   .rename_i e;split at h
    .rename_i h1;have h1:Lib.indexByte l c = -1:=by simpa using h1
     rw[List.count_cons_of_ne (by simpa using e),A08 A2]
    .omega
def Q1(c:UInt8)(l:List B2):B2:=l.flatMap fun p=>p++[c]
def PZ{c:UInt8}:∀ (k:Nat) (a:List B2) (s:B2) (i:Nat),s.count c=k->i+k<a.length->∃ P t,spl c k a s i=(a.take i++P++a.drop (i+k),t,i+k)/\P.length=k/\s=Q1 c P++t
 | 0,a,s,i,_,h2=>⟨[],s,by simp[spl],rfl,by simp[Q1]⟩
 | k+1,a,s,i,h1,h2=>by
   have hi:0<=Lib.indexByte s c:=by
    by_cases h:Lib.indexByte s c<0
    .have:=A08 h;omega
    .omega
   obtain⟨e,w,A⟩:=ON hi;unfold spl;rw[A7 A2];obtain⟨P,t,q,o,f⟩:=PZ (c:=c) k (a.set i (s.take (Lib.indexByte s c).toNat)) (s.drop ((Lib.indexByte s c).toNat+1)) (i+1) A2 (by rw[R2];omega);refine⟨s.take (Lib.indexByte s c).toNat::P,t,?_,by rw[C7,o],?_⟩
   .rw[q];refine Prod.ext ?_ (Prod.ext rfl (by show i+1+k=i+(k+1);omega));show(a.set i _).take (i+1)++P++(a.set i _).drop (i+1+k)=a.take i++(_::P)++a.drop (i+(k+1));have l:i<a.length:=A2;rw[List.drop_set_of_lt A2,show i+1+k=i+(k+1) by omega,List.take_add_one,List.take_set_of_le (A6 _),R8 l];simp
   .have n:s=s.take (Lib.indexByte s c).toNat++c::(Q1 c P++t):=by rw[<- f];exact e
    have:Q1 c (s.take (Lib.indexByte s c).toNat::P)++t=s.take (Lib.indexByte s c).toNat++c::(Q1 c P++t):=by simp[Q1]
    rw[this];exact n
def sT(s:B2)(c:UInt8):∃ P t,parts s c=P++[t]/\P.length=s.count c/\s=Q1 c P++t:=by
 have o:s.count c<=s.length:=cO;obtain⟨P,t,n,e,f⟩:=PZ (c:=c) (s.count c) (List.replicate (s.count c+1) []) s 0 rfl (by simp);refine⟨P,t,?_,e,f⟩;have hm:min (s.count c+1) (s.length+1)=s.count c+1:=A2;unfold parts;simp only[hm,Nat.add_sub_cancel];rw[n];have l:(List.replicate (s.count c+1) ([]:B2)).drop (0+s.count c)=[[]]:=by
  rw[List.drop_replicate];simp
 rw[l];simp only[List.take_zero,G4,F4];rw[<- e,List.set_append_right _ _ (A6 _)];have k:(P++[[]].set (P.length-P.length) t:List B2)=P++[t]:=by simp
 rw[k];exact aW (by simp)
def A1J{α:Type}{p:α->Bool}:∀ {u v:List α} {i:Int},(∀ x ∈ u,p x=false)->I5 p (u++v) i=I5 p v (i+u.length)
 | [],v,i,_=>by simp
 | b::u,v,i,h=>by
   show(if p b=true then some i else I5 p (u++v) (i+1))=_;rw[h b (B3 ..),A7 E6,A1J fun x hx=>h x (C3 _ hx),C7];congr 1;omega
def eqC(c b:UInt8):Bool:=decide (b=c)
def A6Q{c b:UInt8}(h:b=c):eqC c b=true:=I3 h
def A6R{c b:UInt8}(h:¬b=c):eqC c b=false:=D8 h
def fx(c:UInt8)(s:B2):Option Int:=I5 (eqC c) s 0
def A7y{c:UInt8}{v:B2}(h:∀ x ∈ u,x≠c):fx c (u++c::v)=some u.length:=by
 unfold fx;rw[A1J fun x hx=>A6R (h x hx)];show(if eqC c c=true then some _ else _)=_;rw[A9 (A6Q rfl)];congr 1;omega
def A1D:∀ (s:B2) (c:UInt8) (i:Int),I5 (eqC c) s i=if Lib.indexByte s c = -1 then none else some (i+Lib.indexByte s c)
 | [],_,_=>rfl
 | b::l,c,i=>by
   have n:=Lib.indexByte_ge l c;show(if eqC c b=true then some i else I5 (eqC c) l (i+1))=_;by_cases e:b=c
   .have f:Lib.indexByte (b::l) c=0:=by rw[Lib.indexByte,A9 (beq_iff_eq.2 e)]
    rw[A9 (A6Q e),f,A7 E6];simp
   .rw[A7 (by rw[A6R e];decide),A1D l c (i+1)];by_cases k:Lib.indexByte l c = -1
    .have f:Lib.indexByte (b::l) c = -1:=by rw[Lib.indexByte,A7 (by simpa using e),k];rfl
     rw[A9 k,f,A9 rfl]
    .have f:Lib.indexByte (b::l) c=Lib.indexByte l c+1:=by rw[Lib.indexByte,A7 (by simpa using e),A7 (by simpa using k)]
     rw[A7 k,f,A7 A2];congr 1;omega
def B2b{s:B2}{c:UInt8}(h:Lib.indexByte s c<0):fx c s=none:=by
 have e:=Lib.indexByte_ge s c;unfold fx;rw[A1D,A9 A2]
def B2a{s:B2}{c:UInt8}(h:¬Lib.indexByte s c<0):fx c s=some (Lib.indexByte s c):=by
 have e:=Lib.indexByte_ge s c;unfold fx;rw[A1D,A7 A2,Int.zero_add]
def sp(c:UInt8):B2->List B2
 | []=>[[]]
 | b::l=>if b=c then[]::sp c l else match sp c l with
   | x::r=>(b::x)::r
   | []=>[[b]]
def A4g{c:UInt8}:∀ {u:B2},(∀ x ∈ u,x≠c)->sp c u=[u]
 | [],_=>rfl
 | b::u,h=>by
   unfold sp;rw[A7 (h b (B3 ..)),A4g fun x hx=>h x (C3 _ hx)]
def WS{c:UInt8}:∀ {u v:B2},(∀ x ∈ u,x≠c)->sp c (u++c::v)=u::sp c v
 | [],v,_=>by
   show(if c=c then[]::sp c v else _)=_;rw[A9 rfl]
 | b::u,v,h=>by
   show sp c (b::(u++c::v))=_;unfold sp;rw[A7 (h b (B3 ..)),WS fun x hx=>h x (C3 _ hx)];cases v<;>rfl
def xF{c:UInt8}:∀ {P:List B2} {t:B2},(∀ p ∈ P,∀ x ∈ p,x≠c)->(∀ x ∈ t,x≠c)->sp c (Q1 c P++t)=P++[t]
 | [],t,_,h=>A4g h
 | p::P,t,h1,h=>by
   have e:Q1 c (p::P)++t=p++c::(Q1 c P++t):=by simp[Q1]
   rw[e,WS (h1 p (B3 ..)),xF (fun q f=>h1 q (C3 _ f)) h];rfl
def VG{c:UInt8}:∀ {P:List B2} {t:B2},(Q1 c P++t).count c=P.length->(∀ p ∈ P,∀ x ∈ p,x≠c)/\(∀ x ∈ t,x≠c)
 | P,t,h=>by
   have k:∀ (P:List B2),(Q1 c P).count c=P.length+(P.map (List.count c)).sum:=by
    intro P;induction P with
    | nil=>rfl
    | cons p P f =>
      have e:Q1 c (p::P)=p++(c::Q1 c P):=by simp[Q1]
      rw[e,List.count_append,List.count_cons_self,f,C7,C4,List.sum_cons];omega
   rw[List.count_append,k]at h;have o:(P.map (List.count c)).sum=0:=A2;have n:t.count c=0:=A2;refine⟨fun p hp x hx e=>?_,fun x hx e=>?_⟩
   .have:List.count c p<=(P.map (List.count c)).sum:=by
     have:∀ {l:List B2},p ∈ l->List.count c p<=(l.map (List.count c)).sum:=by
      intro l;induction l with
      | nil=>intro h;cases h
      | cons q l f =>
        intro h;rw[C4,List.sum_cons];rcases B4.1 h with rfl|h
        .omega
        .have:=f h;omega
     exact this hp
    have:0<List.count c p:=List.count_pos_iff.2 (e▸hx);omega
   .have:0<List.count c t:=List.count_pos_iff.2 (e▸hx);omega
def yC(s:B2)(c:UInt8):parts s c=sp c s:=by
 obtain⟨P,t,h1,l,h3⟩:=sT s c;have e:(Q1 c P++t).count c=P.length:=by rw[<- h3];exact l.symm
 obtain⟨f,k⟩:=VG e;rw[h1,h3,xF f k]
def NC(s:B2)(c:UInt8):(sp c s).length=s.count c+1:=by
 rw[<- yC];obtain⟨P,t,h1,e,h3⟩:=sT s c;rw[h1,B8,e];rfl
def NB{c:UInt8}{s:B2}(h:p ∈ sp c s):p.length<=s.length:=by
 rw[<- yC]at h;obtain⟨P,t,h1,l,h3⟩:=sT s c;rw[h1]at h;rw[h3,B8];have k:∀ {P:List B2},p ∈ P->p.length<=(Q1 c P).length:=by
  intro P;induction P with
  | nil=>intro h;cases h
  | cons q P f =>
    intro h;have e:Q1 c (q::P)=q++(c::Q1 c P):=by simp[Q1]
    rw[e,B8,C7];rcases B4.1 h with rfl|h
    .omega
    .have:=f h;omega
 rcases B5.1 h with h|h
 .have:=k h;omega
 .obtain rfl:=M2.1 h;omega
def GG{α:Type}{p:α->Bool}:∀ {l:List α} {i:Int},(∀ a ∈ l,p a=false)->I5 p l i=none
 | [],_,_=>rfl
 | a::l,i,h=>by
   unfold I5;rw[h a (B3 ..)];exact GG fun b c=>h b (C3 _ c)
def bsF(b:B2):Prop:=b≠[]/\(b.length<=2∨b.getD 1 0≠45)
def A7x(c:Int):4<=(aJ c).length:=by
 unfold aJ
 (repeat' split)<;>exact A1 rfl
def B2r{c:Int}(h:cR c):bsF (j7 c):=by
 unfold cR at h;by_cases h1:1114113<=c
 .rw[A15 h1];have k:∀ n:Nat,n<26->(nmL.getD n [])≠[]/\((nmL.getD n []).length<=2∨(nmL.getD n []).getD 1 0≠45):=E6;exact k _ A2
 .by_cases e:c=32
  .rw[A16 e];exact⟨E6,.inr E6⟩
  .by_cases h3:c<=126
   .rw[A19 h1 e h3];exact⟨by simp,.inl (by simp)⟩
   .rw[GU h1 e h3];exact⟨by simp,.inr (by show(43:UInt8)≠45;decide)⟩
def vM(a v:_)(m:Int)(h:r≠[]):stp [a,45] v ([a,45]++r,m)=(r,m+v):=by
 unfold stp;rw[A9]
 .rfl
 .refine⟨?_,rfl⟩;show 2<([a,45]++r).length;rw[B8]
  have:=dD.2 h;show 2<2+_;omega
def WN{b:UInt8}(v m:Int)(h:b≠a):stp [a,45] v ([b,45]++r,m)=([b,45]++r,m):=by
 unfold stp;rw[A7];intro k
 have:=k.2;exact h (by injection this)
def MV(v m:Int)(h:bsF r):stp [a,45] v (r,m)=(r,m):=by
 unfold stp;rw[A7];intro ⟨e,c⟩;have e:2<r.length:=e;rcases h.2 with h|h
 .omega
 .match r,e,c,h with
  | x::y::l,_,c,h =>
    have c:[x,y]=[a,45]:=c;injection c with _ c
    injection c with c
    exact h c
def mdP(n:Int)(a:UInt8):B2:=if n=0 then[]else[a,45]
def OB(a:UInt8):mdP 0 a=[]:=A9 rfl
def A3R(a:UInt8):mdP 1 a=[a,45]:=A7 E6
def A3Q(a:UInt8):mdP 2 a=[a,45]:=A7 E6
def A3P(a:UInt8):mdP 4 a=[a,45]:=A7 E6
def B1g{x z:Int}(hx:x=0∨x=4)(e:y=0∨y=2)(f:z=0∨z=1)(h:bsF b):stp [83,45] 1 (stp [77,45] 2 (stp [67,45] 4 (mdP x 67++(mdP y 77++(mdP z 83++b)),0)))=(b,x+y+z):=by
 have c:=h.1;rcases hx with rfl|rfl<;>rcases e with rfl|rfl<;>rcases f with rfl|rfl
 .simp only[OB,G4];rw[MV _ _ h,MV _ _ h,MV _ _ h];first|done|rfl
 .simp only[OB,A3R,G4];rw[WN _ _ E6,WN _ _ E6,vM _ _ _ c];first|done|rfl
 .simp only[OB,A3Q,G4];rw[WN _ _ E6,vM _ _ _ c,MV _ _ h];first|done|rfl
 .simp only[OB,A3Q,A3R,G4];rw[WN _ _ E6,vM _ _ _ (by simp),vM _ _ _ c];first|done|rfl
 .simp only[A3P,OB,G4];rw[vM _ _ _ c,MV _ _ h,MV _ _ h];first|done|rfl
 .simp only[A3P,OB,A3R,G4];rw[vM _ _ _ (by simp),WN _ _ E6,vM _ _ _ c];first|done|rfl
 .simp only[A3P,A3Q,OB,G4];rw[vM _ _ _ (by simp),vM _ _ _ c,MV _ _ h];first|done|rfl
 .simp only[A3P,A3Q,A3R];rw[vM _ _ _ (by simp),vM _ _ _ (by simp),vM _ _ _ c];first|done|rfl
def A9q(h0:0<=d)(h1:d<16):hD (hU d)=d/\hv ((hU d).toNat:Int)=d:=by
 have k:∀ n:Nat,n<16->hD (hU n)=n/\hv ((hU n).toNat:Int)=n:=E6
 have:=k d.toNat A2
 rwa[show((d.toNat:Nat):Int)=d by omega]at this
def B2Z{n:Int}{l:B2}(h0:0<=d)(h1:d<16):hR (hU d::l) n=hR l (16*n+d):=by
 show(if hD (hU d)<0 then none else hR l (16*n+hD (hU d)))=_;rw[(A9q h0 h1).1,A7 A2]
def B1u{n:Int}{l:List Int}(h0:0<=d)(h1:d<16):pu (((hU d).toNat:Int)::l) n=pu l (n*16+d):=by
 show(if hv _<0 then none else pu l (n*16+hv _))=_;rw[(A9q h0 h1).2,A7 A2]
def A9n{c:Int}(h0:0<=c)(h1:c<16777216):hR (aJ c) 0=some c:=by
 unfold aJ
 (repeat' split)<;>(repeat rw[B2Z A2 A2])<;>exact F1 some A2
def A9o{c:Int}(h0:0<=c)(h1:c<16777216):pu (bI (aJ c)) 0=some c:=by
 unfold aJ
 (repeat' split)<;>(unfold bI;simp only[C4,G0])<;>(repeat rw[B1u A2 A2])<;>exact F1 some A2
def B2F(h:b.length=1):I5 (niF b) nmL 0=none:=GG fun a c=>A0C fun e=>by
 have k:∀ a ∈ nmL,a.length≠1:=E6;exact k a c (by rw[e,h])
def A9C :I5 (niF ([85,43]++b)) nmL 0=none:=GG fun a c=>A0C fun e=>by
 have k:∀ a ∈ nmL,a.getD 1 0≠43:=E6;exact k a c (by rw[e];rfl)
def B2E:∀ n:Nat,n<26->I5 (niF (nmL.getD n [])) nmL 0=some (n:Int):=by
 have k:((List.range 26).all fun n=>decide (I5 (niF (nmL.getD n [])) nmL 0=some (n:Int)))=true:=C8;exact fun n c=>J4 (D4.1 k n (W4.2 c))
def A8R{c:Int}(h:cR c):DM (j7 c)=c/\jW (j7 c)=c:=by
 unfold cR at h;by_cases h1:1114113<=c
 .rw[A15 h1]
  have:=B2E (c-1114113).toNat A2;rw[B2e this,B0G this];omega
 .by_cases l:c=32
  .rw[A16 l,l];decide
  .by_cases h3:c<=126
   .rw[A19 h1 l h3];have k:=B2F (b:=[UInt8.ofNat c.toNat]) rfl;have e:(((([UInt8.ofNat c.toNat]:B2).getD 0 0)).toNat:Int)=c:=by
     show((UInt8.ofNat c.toNat).toNat:Int)=c;rw[UInt8.toNat_ofNat',W1 A2];omega
    have f:¬[UInt8.ofNat c.toNat]=([83,112,97,99,101]:B2):=fun e=>by have e:=F1 List.length e;simp at e
    have n:([UInt8.ofNat c.toNat]:B2).length=1:=rfl;refine⟨?_,?_⟩
    .rw[B0F k,A7 f,A9 n];exact e
    .rw[VD k,A7 f,A9 n];exact e
   .rw[GU h1 l h3];have o:=A7x c;have q:=SE c;have l2:(([85,43]++aJ c:B2)).length=2+(aJ c).length:=by rw[B8];rfl
    have f:¬([85,43]++aJ c:B2)=[83,112,97,99,101]:=fun e=>by cases e
    refine⟨?_,?_⟩
    .rw[B0F A9C,A7 f,A7 A2,A7 fun k=>k.elim A2 fun k=>k.elim A2 fun k=>k rfl];show(hR (aJ c) 0).getD (-1)=c;rw[A9n A2 A2];rfl
    .rw[VD A9C,A7 f,A7 A2,A9 ⟨rfl,A2⟩];show puB (aJ c)=c;rw[ZA (fun e=>by rw[e]at o;exact absurd o E6),A9o A2 A2];rfl
def RR(h:kyP x):x=(1,x.2.1,x.2.2.1,0,0,0,0,[])/\0<=x.2.2.1/\x.2.2.1<=7:=by
 obtain⟨k,c,m,w,b,r,cl,t⟩:=x;obtain⟨h1,e⟩:=h;have h1:k=1:=h1;have e:X4 k c m w b r cl t:=e;unfold X4 at e;rcases e with e|e|e|e
 .obtain⟨_,rfl,rfl,rfl,rfl,rfl,f⟩:=e;subst h1;refine⟨rfl,?_⟩;show 0<=m/\m<=7;unfold t7 at f;omega
 .omega
 .omega
 .omega
def PC(h:kyP x):jX (L9 x)=x/\cZ (L9 x)=x:=by
 obtain⟨e,h0,o⟩:=RR h;have f:=yQ h;have l:=B2r f;have c:=A8R f;have k:L9 x=mdP (x.2.2.1 / 4%2*4) 67++(mdP (x.2.2.1 / 2%2*2) 77++(mdP (x.2.2.1 / 1%2*1) 83++j7 x.2.1)):=rfl;have n:=B1g (b:=j7 x.2.1) (x:=x.2.2.1 / 4%2*4) (y:=x.2.2.1 / 2%2*2) (z:=x.2.2.1 / 1%2*1) A2 A2 A2 l;unfold jX cZ;rw[k,n,c.1,c.2,show x.2.2.1 / 4%2*4+x.2.2.1 / 2%2*2+x.2.2.1 / 1%2*1=x.2.2.1 by omega];exact⟨e.symm,e.symm⟩
def yR(s:B2):kpO s=qY s/\kpE s=vS s:=by
 by_cases h:kyP (jX s)/\L9 (jX s)=s
 .have e:cZ s=jX s:=by
   have:=(PC h.1).2
   rwa[h.2]at this
  unfold kpO kpE qY vS;rw[e,A9 h,A9 h];exact⟨rfl,rfl⟩
 .have c:¬(kyP (cZ s)/\L9 (cZ s)=s):=fun k=>h (by
   have:=(PC k.1).1;rw[k.2]at this;rw[this];exact k)
  unfold kpO kpE qY vS;rw[A7 h,A7 c,A7 h,A7 c];exact⟨rfl,rfl⟩
def A5i(h:kyP x):qY (L9 x)=x/\vS (L9 x)=0:=by
 have e:=(PC h).1;unfold qY vS;rw[e,A9 ⟨h,rfl⟩,A9 ⟨h,rfl⟩];exact⟨rfl,rfl⟩
def nmB(l:B2):Prop:=∀ b ∈ l,33<=b.toNat/\b.toNat<=126
def wD{v:B2}(h:nmB u)(k:nmB v):nmB (u++v):=fun b c=>(B5.1 c).elim (h b) (k b)
def A0A{l:B2}(h:(l.all fun b=>decide (33<=b.toNat/\b.toNat<=126))=true):nmB l:=fun b c=>J4 (D4.1 h b c)
def B2Y(h0:0<=d)(h1:d<16):33<=(hU d).toNat/\(hU d).toNat<=126:=by
 have k:∀ n:Nat,n<16->33<=(hU n).toNat/\(hU n).toNat<=126:=E6
 have:=k d.toNat A2
 rwa[show((d.toNat:Nat):Int)=d by omega]at this
def B2X{l:B2}(h0:0<=d)(h1:d<16)(h:nmB l):nmB (hU d::l):=fun b c=>by
 rcases B4.1 c with rfl|c
 .exact B2Y h0 h1
 .exact h b c
def A5Z:nmB []:=fun b c=>by cases c
def A9p{c:Int}(h0:0<=c)(h1:c<16777216):nmB (aJ c):=by
 unfold aJ
 (repeat' split)<;>(repeat refine B2X A2 A2 ?_)<;>exact A5Z
def B2t{c:Int}(h:cR c):nmB (j7 c):=by
 unfold cR at h;by_cases h1:1114113<=c
 .rw[A15 h1];have k:∀ n:Nat,n<26->((nmL.getD n []).all fun b=>decide (33<=b.toNat/\b.toNat<=126))=true:=E6;exact A0A (k _ A2)
 .by_cases e:c=32
  .rw[A16 e];exact A0A E6
  .by_cases h3:c<=126
   .rw[A19 h1 e h3];intro b f;obtain rfl:=M2.1 f;rw[UInt8.toNat_ofNat',W1 A2];omega
   .rw[GU h1 e h3];exact wD (A0A E6) (A9p A2 A2)
def A0L{n:Int}(h:33<=a.toNat/\a.toNat<=126):nmB (mdP n a):=by
 unfold mdP;split
 .exact A5Z
 .intro b c;rcases B4.1 c with rfl|c
  .exact h
  .obtain rfl:=M2.1 c;decide
def FF(x:Xt):L9 x=mdP (x.2.2.1 / 4%2*4) 67++(mdP (x.2.2.1 / 2%2*2) 77++(mdP (x.2.2.1 / 1%2*1) 83++j7 x.2.1)):=rfl
def NZ(h:kyP x):nmB (L9 x):=by
 rw[FF];exact wD (A0L E6) (wD (A0L E6) (wD (A0L E6) (B2t (yQ h))))
def dsh(l:B2):Prop:=∃ a r,l=a::r/\(a≠45∨r=[])
def A1a{n:Int}{l:B2}(h:dsh l)(c:a≠45):dsh (mdP n a++l):=by
 unfold mdP;split
 .exact h
 .exact⟨a,45::l,rfl,.inl c⟩
def B2s{c:Int}(h:cR c):dsh (j7 c):=by
 unfold cR at h;by_cases h1:1114113<=c
 .rw[A15 h1];have k:∀ n:Nat,n<26->(nmL.getD n [])≠[]/\(nmL.getD n []).getD 0 0≠45:=E6
  have:=k (c-1114113).toNat A2
  match f:nmL.getD (c-1114113).toNat [],this with
  | [],k=>exact absurd rfl k.1
  | a::r,k=>exact⟨a,r,rfl,.inl k.2⟩
 .by_cases e:c=32
  .rw[A16 e];exact⟨_,_,rfl,.inl E6⟩
  .by_cases h3:c<=126
   .rw[A19 h1 e h3];exact⟨_,_,rfl,.inr rfl⟩
   .rw[GU h1 e h3];exact⟨85,_,rfl,.inl E6⟩
def A7d(h:kyP x):dsh (L9 x):=by
 rw[FF];exact A1a (A1a (A1a (B2s (yQ h)) E6) E6) E6
def y0(x:Xt):(L9 x).length<=14:=by
 rw[FF];have k:∀ n a,(mdP n a).length<=2:=fun n a=>by
  unfold mdP;split
  .decide
  .exact A6 _
 have e:=k (x.2.2.1 / 4%2*4) 67;have l:=k (x.2.2.1 / 2%2*2) 77;have f:=k (x.2.2.1 / 1%2*1) 83;have c:=A17 x.2.1;simp only[B8];omega
def lnF(g:Gt):B2:=(if gR g=true then[45,114,32]else[])++(L9 (gK g)++32::gC g)
def prB(g:Gt):B2:=[98,105,110,100,32]++lnF g
def prP(x:Xt):B2:=[112,114,101,102,105,120,32]++L9 x
def nT(x:Xt)(l:List Gt):B2:=Q1 10 (prP x::l.map prB)
def xZ(x:Xt)(l:List Gt):B2:=if kmP x l then nT x l else[]
def NO{l:List Gt}(h:kmP x l):xZ x l=nT x l:=A9 h
def A7R{l:List Gt}(h:¬kmP x l):xZ x l=[]:=A7 h
def RM(h:gP g):(lnF g).length<=118:=by
 have h1:=y0 (gK g);have c:=h.2.2.1;unfold lnF;rw[B8,B8,C7];split
 .show 3+_<=_;omega
 .show 0+_<=_;omega
def rF(c:UInt8)(p:B2)(l:List B2):Q1 c (p::l)=p++c::Q1 c l:=by simp[Q1]
def A3C(g:Gt):(prB g).length=5+(lnF g).length:=by
 unfold prB;rw[B8];rfl
def A3B(x:Xt):(prP x).length=7+(L9 x).length:=by
 unfold prP;rw[B8];rfl
def A0o:∀ {l:List Gt},(∀ g ∈ l,gP g)->(Q1 10 (l.map prB)).length<=124*l.length
 | [],_=>by decide
 | g::l,h=>by
   have h1:=RM (h g (B3 ..));have c:=A0o fun x hx=>h x (C3 _ hx)
   rw[C4,rF,B8,C7,C7,A3C];omega
def EX{l:List Gt}(h:kmP x l):(nT x l).length<=8000:=by
 have h1:=A0o h.2.2.1;have c:=h.2.1;have h3:=y0 x;unfold nT;rw[rF,B8,C7,A3B];omega
def Q5(s:B2):B2×B2×Bool:=match fx 32 s with
 | some j=>(s.take j.toNat,s.drop (j+1).toNat,true)
 | none=>(s,[],false)
def A1i{s:B2}(h:fx 32 s=some j):Q5 s=(s.take j.toNat,s.drop (j+1).toNat,true):=by unfold Q5;rw[h]
def A8O{s:B2}(h:fx 32 s=none):Q5 s=(s,[],false):=by unfold Q5;rw[h]
def bnR(s:B2):Bool:=decide (s.take 3=[45,114,32]/\3<s.length)
def bnA(s:B2):B2:=if bnR s=true then s.drop 3 else s
def mkG(x:Xt)(c:B2)(r:Bool):Gt:=(x.1,x.2.1,x.2.2.1,x.2.2.2.1,x.2.2.2.2.1,x.2.2.2.2.2.1,x.2.2.2.2.2.2.1,x.2.2.2.2.2.2.2,c,r)
def bnG(s:B2):Gt:=mkG (qY (Q5 (bnA s)).1) (Q5 (bnA s)).2.1 (bnR s)
def bnP(s:B2):Prop:=(Q5 (bnA s)).2.2=true/\vS (Q5 (bnA s)).1=0/\(Q5 (bnA s)).2.1≠[]
instance(s:B2):Decidable (bnP s):=by unfold bnP;infer_instance
def lnP(s:B2):Prop:=s.take 5=[98,105,110,100,32]/\bnP (s.drop 5)
instance(s:B2):Decidable (lnP s):=by unfold lnP;infer_instance
def lP(s:B2):Bool:=!decide (lnP s)
def lnG(s:B2):Gt:=bnG (s.drop 5)
def A0W{s:B2}(h:lnP s):lP s=false:=by unfold lP;rw[I3 h];rfl
def OG{s:B2}(h:¬lnP s):lP s=true:=by unfold lP;rw[D8 h];rfl
def rok:List B2->Bool
 | []=>false
 | [l]=>decide (l=[])
 | l::m::r=>!lP l && rok (m::r)
def rgs(l:List B2):List Gt:=l.dropLast.map lnG
def hdP(s:B2):Prop:=s.take 7=[112,114,101,102,105,120,32]/\vS (s.drop 7)=0
instance(s:B2):Decidable (hdP s):=by unfold hdP;infer_instance
def psP(l:List B2):Prop:=hdP (l.headD [])/\rok l.tail=true
instance(l:List B2):Decidable (psP l):=by unfold psP;infer_instance
def psX(s:B2):Xt:=qY (((sp 10 s).headD []).drop 7)
def psL(s:B2):Option (List Gt):=T9 none (some (rgs (sp 10 s).tail))
def prE(s:B2):Int:=if 16384<s.length then 3 else if ¬psP (sp 10 s)then 6 else oP (psX s) (el (psL s))
def prX(s:B2):Xt:=if prE s=0 then psX s else X0
def prL(s:B2):Option (List Gt):=if prE s=0 then psL s else none
def B10{s:B2}(h:16384<s.length):prE s=3:=A9 h
def UL{s:B2}(h:¬16384<s.length)(c:¬psP (sp 10 s)):prE s=6:=by unfold prE;rw[A7 h,A9 c]
def A83{s:B2}(h:¬16384<s.length)(c:psP (sp 10 s)):prE s=oP (psX s) (el (psL s)):=by unfold prE;rw[A7 h,A7 fun k=>k c]
def A84{s:B2}(h:prE s≠0):prX s=X0/\prL s=none:=⟨A7 h,A7 h⟩
def A3A{s:B2}(h:prE s=0):prX s=psX s/\prL s=psL s:=⟨A9 h,A9 h⟩
def A8q{l:B2}{r:List B2}(h:r≠[]):rok (l::r)=(!lP l && rok r):=by
 cases r with
 | nil=>exact absurd rfl h
 | cons m r=>rfl
def IR:∀ {l:List B2},rok l=true↔l.getLast? = some []/\l.dropLast.any lP=false
 | []=>by simp[rok]
 | [l]=>by simp[rok]
 | l::m::r=>by
   rw[A8q (by simp),G6,IR (l:=m::r),List.dropLast_cons₂,Q2,List.getLast?_cons_cons];cases lP l<;>simp
def A62(w v:B2):(w++32::v).take (w.length+1)=w++[32]/\(w++32::v).drop (w.length+1)=v:=by
 have e:w++32::v=(w++[32])++v:=by simp
 have c:(w++[32]).length=w.length+1:=by simp
 rw[e];exact⟨cW c,kA c⟩
def A9J(h:gP g):bnR (lnF g)=gR g/\bnA (lnF g)=L9 (gK g)++32::gC g:=by
 have e:bnR (lnF g)=gR g:=by
  unfold bnR lnF;cases hr:gR g with
  | true =>
    rw[A9 rfl];refine I3 ⟨rfl,?_⟩;simp only[B8,C7,N1];omega
  | false =>
    rw[A7 E6,G4];refine D8 fun k=>?_
    obtain⟨a,r,e,h1⟩:=A7d h.1;have k:=k.1;rw[e]at k;rcases h1 with h1|h1
    .injection k with k _;exact h1 k
    .subst h1;injection k with _ k
     injection k with k _
     exact absurd k E6
 refine⟨e,?_⟩;unfold bnA;rw[e];unfold lnF;cases hr:gR g with
 | true=>rw[A9 rfl,A9 rfl];rfl
 | false=>rw[A7 E6,A7 E6];rfl
def A8Y{l:B2}{c:UInt8}(h:nmB l)(f:c.toNat<33):∀ x ∈ l,x≠c:=fun x hx e=>by
 have:=(h x hx).1;rw[e]at this;omega
def RL(h:gP g):lnP (prB g)/\lnG (prB g)=g:=by
 obtain⟨h1,q⟩:=A9J h;have f:=A5i h.1;have n:Q5 (bnA (lnF g))=(L9 (gK g),gC g,true):=by
  have:=A7y (c:=32) (u:=L9 (gK g)) (v:=gC g) (A8Y (NZ h.1) E6);rw[q,A1i this];have e:=A62 (L9 (gK g)) (gC g);have k:(((L9 (gK g)).length:Int)+1).toNat=(L9 (gK g)).length+1:=A2;rw[k,e.2];have l:(((L9 (gK g)).length:Nat):Int).toNat=(L9 (gK g)).length:=A2;rw[l,cW rfl]
 have o:(prB g).drop 5=lnF g:=rfl;unfold lnP lnG bnP bnG;rw[o,n,h1];refine⟨⟨rfl,rfl,f.2,h.2.1⟩,?_⟩;show mkG (qY (L9 (gK g))) (gC g) (gR g)=g;rw[f.1];rfl
def A8S{s:B2}(h:sE s):∀ x ∈ s,x≠10:=fun x hx e=>by
 have:=h.2.2;have k:s.any mD=true:=N7.2 ⟨x,hx,by rw[e];decide⟩;rw[this]at k;cases k
def A7U(h:gP g):∀ x ∈ prB g,x≠10:=by
 have h1:=A8Y (c:=10) (NZ h.1) E6;have e:=A8S h.2;intro x hx;have k:∀ x ∈ ([98,105,110,100,32]:B2),x≠10:=E6;have f:∀ x ∈ ([45,114,32]:B2),x≠10:=E6;unfold prB lnF at hx;rcases B5.1 hx with hx|hx
 .exact k x hx
 .rcases B5.1 hx with hx|hx
  .split at hx
   .exact f x hx
   .cases hx
  .rcases B5.1 hx with hx|hx
   .exact h1 x hx
   .rcases B4.1 hx with rfl|hx
    .decide
    .exact e x hx
def A7T(h:kyP x):∀ b ∈ prP x,b≠10:=by
 have h1:=A8Y (c:=10) (NZ h) E6;intro b e;have f:∀ x ∈ ([112,114,101,102,105,120,32]:B2),x≠10:=E6;unfold prP at e;rcases B5.1 e with e|e
 .exact f b e
 .exact h1 b e
def WR{l:List Gt}(h:kmP x l):sp 10 (nT x l)=prP x::(l.map prB++[[]]):=by
 have:=xF (c:=10) (P:=prP x::l.map prB) (t:=[]) (fun p hp=>by
  rcases B4.1 hp with rfl|hp
  .exact A7T h.1
  .obtain⟨g,e,rfl⟩:=I1.1 hp;exact A7U (h.2.2.1 g e)) (fun x hx=>by cases hx)
 rw[L4]at this;exact this
def A20{l:List Gt}(h:∀ g ∈ l,gP g):rok (l.map prB++[[]])=true/\rgs (l.map prB++[[]])=l:=by
 refine⟨IR.2 ⟨by simp,?_⟩,?_⟩
 .rw[List.dropLast_concat];refine Y8.2 fun p hp=>?_
  obtain⟨g,c,rfl⟩:=I1.1 hp;rw[A0W (RL (h g c)).1];decide
 .unfold rgs;rw[List.dropLast_concat,dR];have:∀ l:List Gt,(∀ g ∈ l,gP g)->l.map (lnG ∘ prB)=l:=by
   intro l;induction l with
   | nil=>intro _;rfl
   | cons g l e =>
     intro h;rw[C4,e fun x hx=>h x (C3 _ hx)];show lnG (prB g)::l=_;rw[(RL (h g (B3 ..))).2]
  exact this l h
def ZE{l:List Gt}(h:kmP x l):prE (nT x l)=0/\prX (nT x l)=x/\el (prL (nT x l))=l:=by
 have c:=WR h;have o:=EX h;obtain⟨r1,n⟩:=A20 h.2.2.1;have e:=A5i h.1;have hp:psP (sp 10 (nT x l)):=by
  rw[c];exact⟨⟨rfl,e.2⟩,r1⟩
 have k:psX (nT x l)=x:=by
  unfold psX;rw[c];exact e.1
 have f:el (psL (nT x l))=l:=by
  unfold psL;rw[c,aM];exact n
 have he:prE (nT x l)=0:=by rw[A83 A2 hp,k,f,zI h]
 refine⟨he,?_,?_⟩
 .rw[(A3A he).1,k]
 .rw[(A3A he).2,f]
def A2_{l:List Gt}(h:kmP x l):(nT x l).count 10=1+l.length:=by
 have h1:=NC (nT x l) 10;rw[WR h,C7,B8,E5]at h1;have c:([[]]:List B2).length=1:=rfl;omega
def l2s{a:B2}{c:Int}(h:a=b)(k:c=d):[U.str a,U.int .i64 c]=[U.str b,U.int .i64 d]:=by subst h k;rfl
def B2Q{l:List Gt}(h0:0<=i)(h1:i<(l.length:Int)):Q1 10 ((l.drop i.toNat).map prB)=(prB (l.getD i.toNat default)++[10])++Q1 10 ((l.drop (i+1).toNat).map prB):=by
 rw[S2 l h0 h1,C4,rF];simp
def B2R{l:List Gt}(h1:(l.length:Int)<=i):Q1 10 ((l.drop i.toNat).map prB)=[]:=by
 rw[cI l h1];rfl
def B2C(h:gR g=true):(el (some [[98,105,110,100,32],[45,114,32],L9 (gK g),[32],gC g,[10]])).flatten=prB g++[10]:=by
 unfold prB lnF;rw[h,A9 rfl];simp[K3]
def B2D(h:gR g=false):(el (some [[98,105,110,100,32],[],L9 (gK g),[32],gC g,[10]])).flatten=prB g++[10]:=by
 unfold prB lnF;rw[h,A7 E6];simp[K3]
def A3D :(el (some [[112,114,101,102,105,120,32],L9 x,[10]])).flatten=prP x++[10]:=by
 unfold prP;simp[K3]
def B2V{f c:B2}(e:f.length<=3)(k:c.length<=100):((el (some [[98,105,110,100,32],f,L9 x,[32],c,[10]])).length:Int)<=1000000/\((el (some [[98,105,110,100,32],f,L9 x,[32],c,[10]])).flatten.length:Int)<=1000000000:=by
 have:=y0 x;refine⟨UV (m:=1000000) rfl,?_⟩;simp only[K3,K7,S3,L4,B8,C7,N1];omega
def B2U{f c:B2}{b:sO}(l:f.length<=3)(k:c.length<=100)(e:((el b).length:Int)<=1000000):(el b).length+((el (some [[98,105,110,100,32],f,L9 x,[32],c,[10]])).flatten).length<=1000000000:=by
 have:=y0 x;simp only[K3,K7,S3,L4,B8,C7,N1];omega
def B2W :((el (some [[112,114,101,102,105,120,32],L9 x,[10]])).length:Int)<=1000000/\((el (some [[112,114,101,102,105,120,32],L9 x,[10]])).flatten.length:Int)<=1000000000:=by
 have:=y0 x;refine⟨UV (m:=1000000) rfl,?_⟩;simp only[K3,K7,S3,L4,B8,C7,N1];omega
def A7V(h:gP g):(prB g++[10]).length<=124:=by
 have:=RM h;unfold prB;rw[B8,B8];show 5+_+1<=_;omega
def A13(h:1<=u.length):T9 none (some (bI u))=some (bI u):=by
 cases u with
 | nil=>simp at h
 | cons a r=>rfl
def A09(u:B2):iB (bI u)=u:=by
 unfold iB bI;rw[dR];induction u with
 | nil=>rfl
 | cons a u c=>rw[C4,c];simp
noncomputable def B0w:R3:=⟨_,fun c=>(.cons (CS c) (.cons (RD c) (.cons (KI c) .nil)))⟩
def qQ:List U->Option (Nat×List U)
 | [u_l,.int .i64 n,.int .i64 i,u_b]=>(P0 rG u_l).bind fun l=>(P0 rB u_b).bind fun b=>if n=((el l).length:Int)/\0<=i/\i<=n/\n<=64/\((el b).length:Int)+124*(n-i)<=1000000/\(∀ g ∈ el l,gP g)then some (0,[E4 rB (T9 b (some (bI (Q1 10 (((el l).drop i.toNat).map prB)))))])else none
 | _=>none
def wC(l:(Option (List (Int×Int×Int×Int×Int×Int×Int×B2×B2×Bool))))(n:Int)(i:Int)(b:sO)(c:n=((el l).length:Int)/\0<=i/\i<=n/\n<=64/\((el b).length:Int)+124*(n-i)<=1000000/\(∀ g ∈ el l,gP g)):qQ [E4 rG l,.int .i64 n,.int .i64 i,E4 rB b]=some (0,[E4 rB (T9 b (some (bI (Q1 10 (((el l).drop i.toNat).map prB)))))]):=by
 simp only[qQ,I0,F5];exact A9 c
def A5R:S7:=⟨[(5,.pointer (some ⟨18,0,none⟩)),(21,dat 22 0 20),(22,h 1 3),(23,h 2 3)],[(18,.cells 103 [.pointer (some ⟨18,0,none⟩),own 23 3 11]),(23,.sq 3 11 5 24),(22,.frz),(24,.frz)],4,[⟨.exit 0,[(5,.pointer (some ⟨18,0,none⟩))],[(18,.cells 103 [.pointer (some ⟨18,0,none⟩),own 25 0 11]),(25,.sq 0 11 5 26),(26,.frz)],1⟩]⟩
noncomputable def ZI:Code:=(f27.body).getD .skip
noncomputable def A5N:Code:=match G8 [true,true,true,true,false,true,false] ZI with|some (.loop x)=>x|_=>.skip
def A5Q:f27.body=some ZI:=rfl
def A5P:G8 [true,true,true,true,false,true,false] ZI=some (.loop A5N):=C8
def ZF(n:Nat):Tr:=.fn aB [h 17 11] 1<|.dt 11 (.cats) [h 3 11,h n 9]<|aD [h n 9]<|aA [h3 2,jI 1]<|.ret [jI (-1),h 0 20,h3 1,h3 (n+3),h (n+1) 11]
def A5O:Tr:=Y1 2 1 4 (dH 2 0 5 (.lt 3 (.get 10 0) [h 0 20,h3 2]<|.lt 3 (.get 10 1) [h 0 20,h3 2]<|.lt 3 (.get 10 2) [h 0 20,h3 2]<|.lt 3 (.get 10 3) [h 0 20,h3 2]<|.lt 3 (.get 10 4) [h 0 20,h3 2]<|.lt 3 (.get 10 5) [h 0 20,h3 2]<|.lt 3 (.get 10 6) [h 0 20,h3 2]<|.lt 9 (.get 10 7) [h 0 20,h3 2]<|.lt 9 (.get 10 8) [h 0 20,h3 2]<|.lt 8 (.get 10 9) [h 0 20,h3 2]<|.br 15 (.fn jP [h3 6,h3 7,h3 8,h3 9,h3 10,h3 11,h3 12,h 13 9] 1<|.dt 11 (.mk 1) [.string ⟨⟨[98,105,110,100,32]⟩⟩,.string ⟨⟨[45,114,32]⟩⟩,h 16 9,.string ⟨⟨[32]⟩⟩,h 14 9,.string ⟨⟨[10]⟩⟩]<|ZF 18) (.fn jP [h3 6,h3 7,h3 8,h3 9,h3 10,h3 11,h3 12,h 13 9] 1<|.dt 11 (.mk 1) [.string ⟨⟨[98,105,110,100,32]⟩⟩,.string ⟨⟨[]⟩⟩,h 16 9,.string ⟨⟨[32]⟩⟩,h 14 9,.string ⟨⟨[10]⟩⟩]<|ZF 18))) (.ret [jI 0,h 3 11])
def ZH:List U->Nat
 | [u_l,.int .i64 n,.int .i64 i,u_b]=>(match P0 rG u_l with|some l=>(match P0 rB u_b with|some b=>(n-i).toNat|none=>0)|none=>0)
 | _=>0
def ZG(l:(Option (List (Int×Int×Int×Int×Int×Int×Int×B2×B2×Bool))))(n:Int)(i:Int)(b:sO):ZH [E4 rG l,.int .i64 n,.int .i64 i,E4 rB b]=(n-i).toNat:=by
 simp only[ZH,I0]
def A82{G}(w:L2 G):∀ (E:Nat->U) (base:Nat),@R7 ⟨E,G⟩ prog base gl f27.ntmps A5N (O4 prog gl n0 27 A5R qQ):=by
 refine V5 (dep:=60) (f:=27) (n0:=n0) (nB:=27) (H0:=H0) ZH A5O (cxg (B0w.2 w) .nil) w func27 A5Q A5P C8 C8 C8 ?_;intro us d outs c;have B:=c;unfold qQ at c;split at c
 .skip;rename_i F n i D;have t:=B9.1 c;clear c;obtain⟨l,o,c⟩:=t;replace o:=K4 o;subst o;have s:=B9.1 c;clear c;obtain⟨b,k,c⟩:=s;replace k:=K4 k;subst k;split at c
  .rename_i q;clear c B;have A:i<n->gP ((el l).getD i.toNat default):=fun h=>q.2.2.2.2.2 _ (eS q.2.1 A2)
   have I:=y0 (gK ((el l).getD i.toNat default));refine⟨rfl,?_⟩;unfold A5O;refine w0 (.cons 3 _ (.cons 2 _ (.cons 1 _ (.cons 0 _ (.nil))))) ?_;repeat (first|refine dJ ?_|refine Y4 ?_|refine w4 (fun g=>?_) fun g=>?_|refine w31 jP (e:=wE _ _ _ _ _ _ _ _ (yQ (A ‹_›).1)) (k':=?_)|refine w2 (.mk 1) (r:=rS) (e:=tO [_,_,_,_,_,_] rfl E6 rfl) (k':=?_)|refine w31 aB (e:=wI _ (B2V (A1 rfl) (A ‹_›).2.2.1)) (k':=?_)|refine w2 (.cats) (r:=rB) (e:=LF rfl (by first|omega|exact B2U (A1 rfl) (A ‹_›).2.2.1 A2)) (k':=?_)|refine kE ?_|(refine w7 [.int .i64 _,E4 rG _,.int .i64 _,.int .i64 _,E4 rB _] ?_;rotate_left)|refine dI ?_|refine eC ?_|refine w1 (.get 10 0) (u:=.int .i64 _) (e:=E1 rfl A2 A2 rfl) (k':=?_)|refine w1 (.get 10 1) (u:=.int .i64 _) (e:=E1 rfl A2 A2 rfl) (k':=?_)|refine w1 (.get 10 2) (u:=.int .i64 _) (e:=E1 rfl A2 A2 rfl) (k':=?_)|refine w1 (.get 10 3) (u:=.int .i64 _) (e:=E1 rfl A2 A2 rfl) (k':=?_)|refine w1 (.get 10 4) (u:=.int .i64 _) (e:=E1 rfl A2 A2 rfl) (k':=?_)|refine w1 (.get 10 5) (u:=.int .i64 _) (e:=E1 rfl A2 A2 rfl) (k':=?_)|refine w1 (.get 10 6) (u:=.int .i64 _) (e:=E1 rfl A2 A2 rfl) (k':=?_)|refine w1 (.get 10 7) (u:=.str _) (e:=E1 rfl A2 A2 rfl) (k':=?_)|refine w1 (.get 10 8) (u:=.str _) (e:=E1 rfl A2 A2 rfl) (k':=?_)|refine w1 (.get 10 9) (u:=.bool _) (e:=E1 rfl A2 A2 rfl) (k':=?_)|refine w4B (fun g=>?_) fun g=>?_|(refine w8 ?_;first|omega)|(refine w7 [.int .i64 _,E4 rB _] ?_;rotate_left))
   all_goals first
    | refine P3 ?_ ?_
      have hx:i<n->∀ X,X=T9 b (some (bI (prB ((el l).getD i.toNat default)++[10])))->qQ [E4 rG l,.int .i64 n,.int .i64 (i+1),E4 rB X]=qQ [E4 rG l,.int .i64 n,.int .i64 i,E4 rB b]:=fun h X C=>by
       have H:=A7V (A h);rw[wC l n (i+1) X ⟨q.1,A2,A2,q.2.2.2.1,by rw[C,aM,K3,B8,oV];omega,q.2.2.2.2.2⟩,wC l n i b q,C,tU,<- GX,B2Q (l:=el l) (i:=i) A2 A2]
      .refine hx ‹_› _ ?_;first
       | exact F1 (fun z=>T9 b (some (bI z))) (B2C (g:=((el l).getD i.toNat default)) ‹_›)
       | exact F1 (fun z=>T9 b (some (bI z))) (B2D (g:=((el l).getD i.toNat default)) ‹_›)
      .rw[ZG,ZG];omega
    | refine J0 (d:=0) ?_
      rw[wC l n i b q,B2R (l:=el l) (i:=i) A2];first|(rw[show bI []=[]from rfl,GP];done)
  .cases c
 .cases c
noncomputable def B1R:List LpE:=(27,([true,true,true,true,false,true,false],O4 prog gl n0 27 A5R qQ))::[]
def A2Q{G}(c:L2 G):Y6 prog G gl B1R:=.cons func27 A5Q A5P (A82 c) .nil
def A9m :0+(prP x++[10]).length<=1000000000:=by
 have:=y0 x;unfold prP;rw[B8,B8];show 0+(7+_+1)<=_;omega
def A6B :(el (none:sO)).length+(el (some [[112,114,101,102,105,120,32],L9 x,[10]])).flatten.length<=1000000000:=by
 rw[A3D];exact A9m
def B1z{l:Option (List Gt)}(h:kmP x (el l)):((el l).length:Int)=((el l).length:Int)/\(0:Int)<=0/\0<=((el l).length:Int)/\((el l).length:Int)<=64/\((el (T9 none (some (bI (el (some [[112,114,101,102,105,120,32],L9 x,[10]])).flatten)))).length:Int)+124*(((el l).length:Int)-0)<=1000000/\(∀ g ∈ el l,gP g):=by
 have e:=h.2.1;refine⟨rfl,E6,A2,A2,?_,h.2.2.1⟩
 have:=A9m (x:=x);have c:=y0 x;rw[A3D,aM,B8,K3,oV];unfold prP;rw[B8,B8];show((0+(7+_+1):Nat):Int)+_<=_;omega
def B0T(u:B2):∀ y ∈ bI u,0<=y/\y<256:=fun y c=>by
 unfold bI at c;obtain⟨b,_,rfl⟩:=I1.1 c;exact VZ b
def A7S{l:Option (List Gt)}(h:kmP x (el l)):(el (T9 (T9 none (some (bI (el (some [[112,114,101,102,105,120,32],L9 x,[10]])).flatten))) (some (bI (Q1 10 (((el l).drop (0:Int).toNat).map prB)))))).length<=1000000000/\∀ y ∈ el (T9 (T9 none (some (bI (el (some [[112,114,101,102,105,120,32],L9 x,[10]])).flatten))) (some (bI (Q1 10 (((el l).drop (0:Int).toNat).map prB))))),0<=y/\y<256:=by
 rw[A3D,A13 (by simp),aM,K3,K3,<- GX];refine⟨?_,B0T _⟩;have h1:=EX h;unfold nT at h1;rw[rF]at h1;rw[oV];have e:prP x++10::Q1 10 ((el l).map prB)=(prP x++[10])++Q1 10 (((el l).drop (0:Int).toNat).map prB):=by simp
 rw[e]at h1;omega
def B1y{l:Option (List Gt)}(h:kmP x (el l)):iB (el (T9 (T9 none (some (bI (el (some [[112,114,101,102,105,120,32],L9 x,[10]])).flatten))) (some (bI (Q1 10 (((el l).drop (0:Int).toNat).map prB))))))=xZ x (el l):=by
 rw[NO h,A3D,A13 (by simp),aM,K3,K3,<- GX,A09];unfold nT;rw[rF];simp
noncomputable def B0v:R3:=⟨_,fun c=>(.cons (CS c) (.cons (RD c) (.cons (KI c) .nil)))⟩
def CH:List U->Option (Nat×List U)
 | [.int .i64 p1,.int .i64 p2,.int .i64 p3,.int .i64 p4,.int .i64 p5,.int .i64 p6,.int .i64 p7,.str p8,u_l]=>(P0 rG u_l).bind fun l=>if -9223372036854775808<=p3/\p3<=9223372036854775807/\(p8.length:Int)<=140737488351232/\((el l).length:Int)<=140737488351232/\(∀ g ∈ el l,gOk g)then some (0,[.str (xZ (p1,p2,p3,p4,p5,p6,p7,p8) (el l)),.int .i64 (oP (p1,p2,p3,p4,p5,p6,p7,p8) (el l))])else none
 | _=>none
def A29(n:Int)(o:Int)(c:Int)(q:Int)(k:Int)(s:Int)(f:Int)(e:B2)(l:(Option (List (Int×Int×Int×Int×Int×Int×Int×B2×B2×Bool))))(t : -9223372036854775808<=c/\c<=9223372036854775807/\(e.length:Int)<=140737488351232/\((el l).length:Int)<=140737488351232/\(∀ g ∈ el l,gOk g)):CH [.int .i64 n,.int .i64 o,.int .i64 c,.int .i64 q,.int .i64 k,.int .i64 s,.int .i64 f,.str e,E4 rG l]=some (0,[.str (xZ (n,o,c,q,k,s,f,e) (el l)),.int .i64 (oP (n,o,c,q,k,s,f,e) (el l))]):=by
 simp only[CH,I0,F5];exact A9 t
def A5M:Tr:=.fn jQ [h3 0,h3 1,h3 2,h3 3,h3 4,h3 5,h3 6,h 7 9,h 8 20] 1<|bD 9 10 0 (.ret [.string ⟨⟨[]⟩⟩,h3 9]) (.fn jP [h3 0,h3 1,h3 2,h3 3,h3 4,h3 5,h3 6,h 7 9] 1<|.dt 11 (.mk 1) [.string ⟨⟨[112,114,101,102,105,120,32]⟩⟩,h 11 9,.string ⟨⟨[10]⟩⟩]<|.fn aB [h 12 11] 1<|.dt 11 (.nilw 1) []<|.dt 11 (.cats) [h 14 11,h 13 9]<|aD [h 13 9]<|aD [h 8 20]<|.fn qQ [h 8 20,h3 17,jI 0,h 15 11] 1<|aD [h 18 11]<|.lt 9 (.ustr) [h 18 11,h3 19]<|.ret [h 20 9,jI 0])
def A81{G}(k:L2 G):M1 prog G 27 [.a [3,3,3,3,3,3,3,9,20]] CH [.s 9,.s 3]:=by
 refine G3 (d:=60) A5M (cxg (B0v.2 k) (A2Q k)) k ⟨f27,_,func27,rfl⟩ C8 C8 ?_;intro us outs f;unfold CH at f;split at f
 .skip;rename_i h o A C B q t w D;have n:=B9.1 f;clear f;obtain⟨l,c,f⟩:=n;replace c:=K4 c;subst c;split at f
  .rename_i E;cases f;have F:=y0 (h,o,A,C,B,q,t,w);unfold A5M;refine w0 (.cons 8 _ (.cons 7 _ (.cons 6 _ (.cons 5 _ (.cons 4 _ (.cons 3 _ (.cons 2 _ (.cons 1 _ (.cons 0 _ (.nil)))))))))) ?_;repeat (first|(refine w7 [.str _,.int .i64 _] ?_;rotate_left)|refine jL ?_|refine w31 jQ (e:=wG _ _ _ _ _ _ _ _ _ E) (k':=?_)|refine AP ?_|refine w4 (fun g=>?_) fun g=>?_|refine w31 jP (e:=wE _ _ _ _ _ _ _ _ (yQ (x:=(h,o,A,C,B,q,t,w)) (vR ‹_›).1)) (k':=?_)|refine w2 (.mk 1) (r:=rS) (e:=tO [_,_,_] rfl E6 rfl) (k':=?_)|refine w31 aB (e:=wI _ B2W) (k':=?_)|refine w2 (.nilw 1) (r:=rB) (e:=sA rfl) (k':=?_)|refine w2 (.cats) (r:=rB) (e:=LF rfl (by first|omega|exact A6B|exact(A7S (vR ‹_›)).1)) (k':=?_)|refine kE ?_|refine w31 qQ (e:=wC _ _ _ _ (B1z (vR ‹_›))) (k':=?_)|refine w1 (.ustr) (e:=A1K rfl A2 (by first|omega|exact A6B|exact(A7S (vR ‹_›)).1) (by exact(A7S (vR ‹_›)).2)) (k':=?_))
   all_goals
    first
    | (refine l2s (A7R (A7p ‹_›)).symm ?_;first|rfl)
    | (refine l2s (B1y (vR ‹_›)) ?_;exact(zI (vR ‹_›)).symm)
  .cases f
 .cases f
end
end Go.Proofs.YtbbicpheoakeeaaGreatDoor
