import Derived.Test.YtbbicpheoakeeaaGreatDoorX11
import Derived.Lib.Bytealg
set_option linter.all false
set_option maxRecDepth 100000
set_option maxHeartbeats 4000000
namespace Go.Proofs.YtbbicpheoakeeaaGreatDoor
variable {x:Xt}{a8 b p r sep u z:B2}{d i j m v y:Int}{a:List B2}{k:Nat}
section
open Go Go.Sx Go.Proofs.Tryz
def rS:Rw B2:=r1 zX
def nmL:List B2:=[[85,112],[68,111,119,110],[82,105,103,104,116],[76,101,102,116],[69,110,100],[72,111,109,101],[70,49],[70,50],[70,51],[70,52],[73,110,115,101,114,116],[68,101,108,101,116,101],[80,97,103,101,85,112],[80,97,103,101,68,111,119,110],[70,53],[70,54],[70,55],[70,56],[70,57],[70,49,48],[70,49,49],[70,49,50],[69,110,116,101,114],[84,97,98],[66,97,99,107],[69,115,99,97,112,101]]
def A2p{R:Nat->Option Obj}{x:Option (List B2)}{vs:D0}(h:ShL R [.s 11,.s 9] [D9 rS x,.str sep] vs):∃ v,vs=[v,.string ⟨⟨sep⟩⟩]/\Enc R (D9 rS x) v:=by
 generalize hu:[D9 rS x,U.str sep]=us at h;cases h with
 | cons h1 e =>
   cases h1 with
   | s c t1 =>
     cases e with
     | cons h3 g =>
       cases h3 with
       | s f t2 =>
         cases g;simp only[S2,G5,R2,J5,and_true]at hu;obtain⟨rfl,rfl⟩:=hu
         have:=gA f (show toV (.str sep)=some (.string ⟨⟨sep⟩⟩)from rfl);subst this;exact⟨_,rfl,c⟩
def A1f{R:Nat->Option Obj}{x:Option (List B2)}{v:Value}(h:Enc R (D9 rS x) v):(el x=[]/\∃ a c,v=.slice a 0 c)∨∃ a o c C T fz,v=.slice (some ⟨a,o,none⟩) (el x).length c/\(el x).length<=c/\(el x≠[]->R a=some (.cells C T fz))/\∀ (j:Nat) (s:B2),(el x)[j]? = some s->C[o+j]? = some (.string ⟨⟨s⟩⟩):=by
 rw[S8]at h;generalize hu:U.seq _ _ _=u at h;cases h with
 | sc h=>subst hu;cases h
 | nil =>
   injection hu with h1 h2 h3
   exact .inl ⟨by simpa using h3,_,_,rfl⟩
 | emp =>
   injection hu with h1 h2 h3
   exact .inl ⟨by simpa using h3,_,_,rfl⟩
 | sl A D l hw h =>
   rename_i w rows a o c C T fz;injection hu with h1 h2 h3
   subst h3;have n:w=1:=h2.symm;subst n;have t:((el x).map rS.enc).length=(el x).length:=E8 ..;rw[t]at A l;refine .inr ⟨a,o,c,C,T,fz,by rw[t],A,fun q=>D (by simpa using q),fun j s g=>?_⟩;have q:(el x).map rS.enc≠[]:=by intro e;rw[List.map_eq_nil_iff.1 e]at g;cases g
   have B:j<(el x).length:=(B0.1 g).1;have l:=l q;have f:o+j<C.size:=A2
   have:=h j (rS.enc s) 0 (.str s) C[o+j] (by rw[F6,g];rfl) rfl (by rw[Nat.mul_one,jR];exact F2 f);rw[F2 f,gA this (show toV (.str s)=some (.string ⟨⟨s⟩⟩)from rfl)]
def jnS(x:Option (List B2))(sep:B2):B2:=Lib.join (el x) sep
def A0L(l:List B2):(l.map (fun s=>ByteArray.mk ⟨s⟩)).map (·.data.toList)=l:=by
 rw[jT];exact(dP fun _ _=>rfl).trans (List.map_id _)
def VD:List U->Option (Nat×List U)
 | [u_x,.str sep]=>(L4 rS u_x).bind fun x=>if((el x).length:Int)<=1000000/\(jnS x sep).length<=1000000000 then some (0,[.str (jnS x sep)])else none
 | _=>none
def A7q(x:(Option (List B2)))(sep:B2)(c:((el x).length:Int)<=1000000/\(jnS x sep).length<=1000000000):VD [D9 rS x,.str sep]=some (0,[.str (jnS x sep)]):=by
 simp only[VD,I0,F5];exact A9 c
def B2N{G}(A:L1 G):M3 prog G 93 [.s 11,.s 9] VD [.s 9]:=by
 intro us outs w vs R q f F hR;unfold VD at f;split at f
 .skip;rename_i D sep;have l:=B3.1 f;clear f;obtain⟨x,g,f⟩:=l;replace g:=I6 g;subst g;split at f
  .rename_i E;cases f;refine gF (vr:=[.string ⟨⟨jnS x sep⟩⟩]) func93 rfl C6 rfl ?_;obtain⟨v,rfl,hv⟩:=A2p q;rcases A1f hv with⟨h0,a,c,rfl⟩|⟨a,o,c,C,T,fz,rfl,h1,B,h3⟩
   .refine((Tryz.strings_Join_none a c ⟨⟨sep⟩⟩ w).mono fun e w' ⟨g1,g2⟩=>⟨?_,by subst g2;exact RowKit.Below.refl _ _⟩);rw[g1];unfold jnS;rw[h0];rfl
   .by_cases t:el x=[]
    .rw[t];refine((Tryz.strings_Join_none _ c ⟨⟨sep⟩⟩ w).mono fun e w' ⟨g1,g2⟩=>⟨?_,by subst g2;exact RowKit.Below.refl _ _⟩);rw[g1];unfold jnS;rw[t];rfl
    .have h:=B t;have hw:=hR _ _ h;have key:=Tryz.strings_Join a o c ((el x).map (fun s=>ByteArray.mk ⟨s⟩)) ⟨⟨sep⟩⟩ w (fun j y n=>?_) (hR.lt h) (by rw[E8];omega) (by rw[E8];exact h1) (by rw[A0L];show(jnS x sep).length<=_;have:=E.2;omega)
     .rw[E8]at key;refine(key.mono fun e w' ⟨g1,g2⟩=>⟨?_,g2⟩);rw[g1,A0L];rfl
     .rw[F6]at n;cases f:(el x)[j]? with
      | none=>rw[f]at n;cases n
      | some s =>
        rw[f]at n;cases n;simp only[World.cell?,hw];exact h3 j s f
  .cases f
 .cases f
noncomputable def B0t:R3:=⟨_,fun c=>.nil⟩
def yA:List U->Option (Nat×List U)
 | []=>some (0,[D9 rS (some nmL)])
 | _=>none
def RG :yA []=some (0,[D9 rS (some nmL)]):=rfl
def A0B{G}(c:L1 G):M3 prog G 89 [] yA [.s 11]:=by
 refine gN (d:=60) (cxg (B0t.2 c) .nil) c ⟨f89,_,func89,rfl⟩ ?_;intro us outs e;unfold yA at e;split at e
 .cases e;exact⟨[],by kernel_rfl⟩
 .cases e
def SB(x:Option (List B2)):jnS x []=(el x).flatten:=by
 unfold jnS Lib.join;generalize el x=l;have h:∀ l:List B2,(List.intersperse [] l).flatten=l.flatten:=fun l=>by
  induction l with
  | nil=>rfl
  | cons a l c =>
    cases l with
    | nil=>rfl
    | cons b l=>rw[List.intersperse_cons_cons,O9,O9,c,O9 (l:=a)];rfl
 exact h l
noncomputable def B04:R3:=⟨_,fun c=>(.cons (B2N c) .nil)⟩
def eX:List U->Option (Nat×List U)
 | [u_x]=>(L4 rS u_x).bind fun x=>if((el x).length:Int)<=1000000/\((el x).flatten.length:Int)<=1000000000 then some (0,[.str ((el x).flatten)])else none
 | _=>none
def SA(x:(Option (List B2)))(c:((el x).length:Int)<=1000000/\((el x).flatten.length:Int)<=1000000000):eX [D9 rS x]=some (0,[.str ((el x).flatten)]):=by
 simp only[eX,I0,F5];exact A9 c
def A5w:Tr:=.fn VD [h 0 11,.string ⟨⟨[]⟩⟩] 1<|.ret [h 1 9]
def A00{G}(g:L1 G):M3 prog G 58 [.s 11] eX [.s 9]:=by
 refine G3 (d:=60) A5w (cxg (B04.2 g) .nil) g ⟨f58,_,func58,rfl⟩ C6 C6 ?_;intro us outs f;unfold eX at f;split at f
 .skip;rename_i n;have l:=B3.1 f;clear f;obtain⟨x,c,f⟩:=l;replace c:=I6 c;subst c;split at f
  .rename_i o;cases f;unfold A5w;refine w0 (.cons 0 _ (.nil)) ?_;repeat (first|refine w31 VD (e:=A7q _ _ ⟨o.1,by rw[SB];omega⟩) (k':=?_)|(refine w7 [.str _] ?_;rotate_left))
   all_goals
    first|(rw[SB];done)
  .cases f
 .cases f
def IT:List U->Option (Nat×List U)
 | [.str s,.int .i64 c]=>if 0<=c/\c<=1000/\(s.length:Int)<=1000 then some (0,[.str (Lib.repeatL s c.toNat)])else none
 | _=>none
def A2x(s:B2)(c:Int)(e:0<=c/\c<=1000/\(s.length:Int)<=1000):IT [.str s,.int .i64 c]=some (0,[.str (Lib.repeatL s c.toNat)]):=A9 e
def A8o{G}(l:L1 G):M3 prog G 34 [.s 9,.s 3] IT [.s 9]:=by
 intro us outs w vs R g f t hR;unfold IT at f;split at f
 .skip;rename_i s c;split at f
  .rename_i h;cases f;have hv:=U9 (vs2:=[.string ⟨⟨s⟩⟩,.int .i64 c]) g rfl;subst hv;refine gF (vr:=[.string ⟨⟨Lib.repeatL s c.toNat⟩⟩]) func34 rfl C6 rfl ?_;obtain⟨n,rfl⟩:∃ n:Nat,c=n:=⟨c.toNat,A2⟩;have q:s.length*n<=140737488355328:=B9 (fH (show s.length<=1000 by omega) (show n<=1000 by omega)) E7;exact(Tryz.strings_Repeat ⟨⟨s⟩⟩ n w A2 q).mono fun e w' ⟨h1,o⟩=>⟨h1,o⟩
  .cases f
 .cases f
def HX:List U->Option (Nat×List U)
 | [.str s]=>if(s.length:Int)<=1000/\(∀ b ∈ s,b.toNat<128)then some (0,[.str (Lib.toUpperA s)])else none
 | _=>none
def A2h(s:B2)(c:(s.length:Int)<=1000/\(∀ b ∈ s,b.toNat<128)):HX [.str s]=some (0,[.str (Lib.toUpperA s)]):=A9 c
def A8f{G}(g:L1 G):M3 prog G 107 [.s 9] HX [.s 9]:=by
 intro us outs w vs R f c q hR;unfold HX at c;split at c
 .skip;rename_i s;split at c
  .rename_i n;cases c;have hv:=U9 (vs2:=[.string ⟨⟨s⟩⟩]) f rfl;subst hv;refine gF (vr:=[.string ⟨⟨Lib.toUpperA s⟩⟩]) func107 rfl C6 rfl ?_;exact(Tryz.strings_ToUpper_ascii ⟨⟨s⟩⟩ w (by show s.length<=_;omega) (fun j b o=>by have:=n.2 b (C8 o);omega)).mono fun e w' ⟨h1,l⟩=>⟨h1,l⟩
  .cases c
 .cases c
def hU(d:Int):UInt8:=([48,49,50,51,52,53,54,55,56,57,65,66,67,68,69,70]:B2).getD d.toNat 0
def bV(c:Int):B2:=if c<65536 then[hU (c / 4096%16),hU (c / 256%16),hU (c / 16%16),hU (c%16)]else if c<1048576 then[hU (c / 65536%16),hU (c / 4096%16),hU (c / 256%16),hU (c / 16%16),hU (c%16)]else[hU (c / 1048576%16),hU (c / 65536%16),hU (c / 4096%16),hU (c / 256%16),hU (c / 16%16),hU (c%16)]
def bJ(c:Int):B2:=if 1114113<=c then nmL.getD (c-1114113).toNat []else if c=32 then[83,112,97,99,101]else if c<=126 then[UInt8.ofNat c.toNat]else[85,43]++bV c
def cc{a b:UInt8}{l m:B2}(h:a=b)(k:l=m):a::l=b::m:=by rw[h,k]
def A3O{n m:Nat}(h:Nat.ble n m=true):(n:Int)<=(m:Int):=bE.2 (A1 h)
def hx(d:Int):Int:=((([48,49,50,51,52,53,54,55,56,57,97,98,99,100,101,102,103,104,105,106,107,108,109,110,111,112,113,114,115,116,117,118,119,120,121,122]:B2).getD d.toNat 0).toNat:Int)
def tM(d:Int):0<=hx d/\hx d<128:=by
 unfold hx;rcases F8 d.toNat 36 with h|h
 .have k:∀ n:Nat,n<36->(([48,49,50,51,52,53,54,55,56,57,97,98,99,100,101,102,103,104,105,106,107,108,109,110,111,112,113,114,115,116,117,118,119,120,121,122]:B2).getD n 0).toNat<128:=E7
  have:=k _ h;omega
 .rw[B1,fO.2 h];decide
def T8(d:Int):0<=hx d/\hx d<256:=by have:=tM d;omega
def s8(h0:0<=d)(h1:d<16):Lib.upperB (UInt8.ofNat (hx d).toNat)=hU d:=by
 have k:∀ n:Nat,n<16->Lib.upperB (UInt8.ofNat (((([48,49,50,51,52,53,54,55,56,57,97,98,99,100,101,102,103,104,105,106,107,108,109,110,111,112,113,114,115,116,117,118,119,120,121,122]:B2).getD n 0).toNat:Int)).toNat)=([48,49,50,51,52,53,54,55,56,57,65,66,67,68,69,70]:B2).getD n 0:=E7;exact k d.toNat A2
def A9y(h0:0<=d)(h1:d<36):evU .idx [.str [48,49,50,51,52,53,54,55,56,57,97,98,99,100,101,102,103,104,105,106,107,108,109,110,111,112,113,114,115,116,117,118,119,120,121,122],.int .u64 d]=.int .u8 (hx d):=OW _ _ _ h0 (by show _<((36:Nat):Int);omega)
attribute [irreducible] hx
def WH(l:List Int):(Lib.toUpperA (iB l)).length=l.length:=by unfold Lib.toUpperA iB;rw[E8,E8]
def B1X{l:List Int}(h:l.length<=6)(e:∀ x ∈ l,0<=x/\x<128):((iB l).length:Int)<=1000/\(∀ b ∈ iB l,b.toNat<128):=by
 unfold iB;refine⟨by rw[E8];omega,fun b f=>?_⟩;obtain⟨x,c,rfl⟩:=I7.1 f
 have:=e x c;show(UInt8.ofNat x.toNat).toNat<128;rw[UInt8.toNat_ofNat',d9 A2];omega
def B1d{l:List Int}(h:l.length<=6):IntKind.i64.wrap (4-((Lib.toUpperA (iB l)).length:Int))=4-((Lib.toUpperA (iB l)).length:Int):=by
 rw[WH];exact iM A2 A2
def B2M{l:List Int}(h:l.length<=6):((el (some [[85,43],Lib.repeatL [48] (max 0 (4-((Lib.toUpperA (iB l)).length:Int))).toNat,Lib.toUpperA (iB l)])).length:Int)<=1000000/\((el (some [[85,43],Lib.repeatL [48] (max 0 (4-((Lib.toUpperA (iB l)).length:Int))).toNat,Lib.toUpperA (iB l)])).flatten.length:Int)<=1000000000:=by
 refine⟨A3O (m:=1000000) rfl,?_⟩;rw[Q6];simp only[O9,cA,R2,E1,Lib.repeatL_length,WH,E4,Y2];omega
def B1p{l:List Int}(h:l.length<=6):0<=max 0 (4-((Lib.toUpperA (iB l)).length:Int))/\max 0 (4-((Lib.toUpperA (iB l)).length:Int))<=1000/\((([48]:B2).length:Nat):Int)<=1000:=⟨A2,A2,A3O (m:=1000) rfl⟩
def A60(b:UInt8):0<=(b.toNat:Int)/\(b.toNat:Int)<256:=by have:=b.toNat_lt;omega
def A8T{c:Int}(h:1114113<=c):bJ c=nmL.getD (c-1114113).toNat []:=A9 h
def PH{c:Int}(h:¬1114113<=c)(e:¬c=32)(h3:¬c<=126):bJ c=[85,43]++bV c:=by unfold bJ;rw[A7 h,A7 e,A7 h3]
def A8W{c:Int}(h:¬1114113<=c)(e:¬c=32)(h3:c<=126):bJ c=[UInt8.ofNat c.toNat]:=by unfold bJ;rw[A7 h,A7 e,A9 h3]
def A8U{c:Int}(e:c=32):bJ c=[83,112,97,99,101]:=by subst e;rfl
def A1_{c:Int}(f:z=u)(hu:Lib.repeatL [48] (max 0 (4-(u.length:Int))).toNat++u=bV c)(e:bJ c=[85,43]++bV c):(el (some [[85,43],Lib.repeatL [48] (max 0 (4-(z.length:Int))).toNat,z])).flatten=bJ c:=by
 subst f;rw[e,<- hu,Q6];simp only[O9,cA,R2]
def B2p{c:Int}(h0:0<=c)(h1:c<256):Lib.toUpperA (iB [hx (c / 16),hx (c%16)])=[hU (c / 16%16),hU (c%16)]:=by
 show[Lib.upperB (UInt8.ofNat (hx (c / 16)).toNat),Lib.upperB (UInt8.ofNat (hx (c%16)).toNat)]=_;rw[s8 (d:=c / 16) A2 A2,s8 (d:=c%16) A2 A2];exact cc (F3 hU A2) (cc (F3 hU A2) (rfl))
def B2h{c:Int}(h0:0<=c)(h1:c<256):Lib.repeatL [48] (max 0 (4-(([hU (c / 16%16),hU (c%16)]:B2).length:Int))).toNat++[hU (c / 16%16),hU (c%16)]=bV c:=by
 unfold bV;rw[A9 A2];rw[show c / 4096%16=0 by omega];rw[show c / 256%16=0 by omega];rfl
def B2o{c:Int}(h0:0<=c)(h1:c<4096):Lib.toUpperA (iB [hx (c / 16 / 16),hx (c / 16%16),hx (c%16)])=[hU (c / 256%16),hU (c / 16%16),hU (c%16)]:=by
 show[Lib.upperB (UInt8.ofNat (hx (c / 16 / 16)).toNat),Lib.upperB (UInt8.ofNat (hx (c / 16%16)).toNat),Lib.upperB (UInt8.ofNat (hx (c%16)).toNat)]=_;rw[s8 (d:=c / 16 / 16) A2 A2,s8 (d:=c / 16%16) A2 A2,s8 (d:=c%16) A2 A2];exact cc (F3 hU A2) (cc (F3 hU A2) (cc (F3 hU A2) (rfl)))
def B2g{c:Int}(h0:0<=c)(h1:c<4096):Lib.repeatL [48] (max 0 (4-(([hU (c / 256%16),hU (c / 16%16),hU (c%16)]:B2).length:Int))).toNat++[hU (c / 256%16),hU (c / 16%16),hU (c%16)]=bV c:=by
 unfold bV;rw[A9 A2];rw[show c / 4096%16=0 by omega];rfl
def B2n{c:Int}(h0:0<=c)(h1:c<65536):Lib.toUpperA (iB [hx (c / 16 / 16 / 16),hx (c / 16 / 16%16),hx (c / 16%16),hx (c%16)])=[hU (c / 4096%16),hU (c / 256%16),hU (c / 16%16),hU (c%16)]:=by
 show[Lib.upperB (UInt8.ofNat (hx (c / 16 / 16 / 16)).toNat),Lib.upperB (UInt8.ofNat (hx (c / 16 / 16%16)).toNat),Lib.upperB (UInt8.ofNat (hx (c / 16%16)).toNat),Lib.upperB (UInt8.ofNat (hx (c%16)).toNat)]=_;rw[s8 (d:=c / 16 / 16 / 16) A2 A2,s8 (d:=c / 16 / 16%16) A2 A2,s8 (d:=c / 16%16) A2 A2,s8 (d:=c%16) A2 A2];exact cc (F3 hU A2) (cc (F3 hU A2) (cc (F3 hU A2) (cc (F3 hU A2) (rfl))))
def B2f{c:Int}(h0:0<=c)(h1:c<65536):Lib.repeatL [48] (max 0 (4-(([hU (c / 4096%16),hU (c / 256%16),hU (c / 16%16),hU (c%16)]:B2).length:Int))).toNat++[hU (c / 4096%16),hU (c / 256%16),hU (c / 16%16),hU (c%16)]=bV c:=by
 unfold bV;rw[A9 A2];rfl
def B2m{c:Int}(h0:0<=c)(h1:c<1048576):Lib.toUpperA (iB [hx (c / 16 / 16 / 16 / 16),hx (c / 16 / 16 / 16%16),hx (c / 16 / 16%16),hx (c / 16%16),hx (c%16)])=[hU (c / 65536%16),hU (c / 4096%16),hU (c / 256%16),hU (c / 16%16),hU (c%16)]:=by
 show[Lib.upperB (UInt8.ofNat (hx (c / 16 / 16 / 16 / 16)).toNat),Lib.upperB (UInt8.ofNat (hx (c / 16 / 16 / 16%16)).toNat),Lib.upperB (UInt8.ofNat (hx (c / 16 / 16%16)).toNat),Lib.upperB (UInt8.ofNat (hx (c / 16%16)).toNat),Lib.upperB (UInt8.ofNat (hx (c%16)).toNat)]=_;rw[s8 (d:=c / 16 / 16 / 16 / 16) A2 A2,s8 (d:=c / 16 / 16 / 16%16) A2 A2,s8 (d:=c / 16 / 16%16) A2 A2,s8 (d:=c / 16%16) A2 A2,s8 (d:=c%16) A2 A2];exact cc (F3 hU A2) (cc (F3 hU A2) (cc (F3 hU A2) (cc (F3 hU A2) (cc (F3 hU A2) (rfl)))))
def B2e{c:Int}(h0:0<=c)(h1:c<1048576)(e:65536<=c):Lib.repeatL [48] (max 0 (4-(([hU (c / 65536%16),hU (c / 4096%16),hU (c / 256%16),hU (c / 16%16),hU (c%16)]:B2).length:Int))).toNat++[hU (c / 65536%16),hU (c / 4096%16),hU (c / 256%16),hU (c / 16%16),hU (c%16)]=bV c:=by
 unfold bV;rw[A7 A2,A9 A2];rfl
def B2l{c:Int}(h0:0<=c)(h1:c<16777216):Lib.toUpperA (iB [hx (c / 16 / 16 / 16 / 16 / 16),hx (c / 16 / 16 / 16 / 16%16),hx (c / 16 / 16 / 16%16),hx (c / 16 / 16%16),hx (c / 16%16),hx (c%16)])=[hU (c / 1048576%16),hU (c / 65536%16),hU (c / 4096%16),hU (c / 256%16),hU (c / 16%16),hU (c%16)]:=by
 show[Lib.upperB (UInt8.ofNat (hx (c / 16 / 16 / 16 / 16 / 16)).toNat),Lib.upperB (UInt8.ofNat (hx (c / 16 / 16 / 16 / 16%16)).toNat),Lib.upperB (UInt8.ofNat (hx (c / 16 / 16 / 16%16)).toNat),Lib.upperB (UInt8.ofNat (hx (c / 16 / 16%16)).toNat),Lib.upperB (UInt8.ofNat (hx (c / 16%16)).toNat),Lib.upperB (UInt8.ofNat (hx (c%16)).toNat)]=_;rw[s8 (d:=c / 16 / 16 / 16 / 16 / 16) A2 A2,s8 (d:=c / 16 / 16 / 16 / 16%16) A2 A2,s8 (d:=c / 16 / 16 / 16%16) A2 A2,s8 (d:=c / 16 / 16%16) A2 A2,s8 (d:=c / 16%16) A2 A2,s8 (d:=c%16) A2 A2];exact cc (F3 hU A2) (cc (F3 hU A2) (cc (F3 hU A2) (cc (F3 hU A2) (cc (F3 hU A2) (cc (F3 hU A2) (rfl))))))
def B2d{c:Int}(h0:0<=c)(h1:c<16777216)(e:1048576<=c):Lib.repeatL [48] (max 0 (4-(([hU (c / 1048576%16),hU (c / 65536%16),hU (c / 4096%16),hU (c / 256%16),hU (c / 16%16),hU (c%16)]:B2).length:Int))).toNat++[hU (c / 1048576%16),hU (c / 65536%16),hU (c / 4096%16),hU (c / 256%16),hU (c / 16%16),hU (c%16)]=bV c:=by
 unfold bV;rw[A7 A2,A7 A2];rfl
noncomputable def B1I:R3:=⟨_,fun c=>(.cons (A0B c) (.cons (A00 c) (.cons (A8o c) (.cons (A8f c) .nil))))⟩
def DZ:List U->Option (Nat×List U)
 | [.int .i64 c]=>if(32<=c/\c<=126)∨(160<=c/\c<=1114111)∨(1114113<=c/\c<=1114138)then some (0,[.str (bJ c)])else none
 | _=>none
def A4E(c:Int)(e:(32<=c/\c<=126)∨(160<=c/\c<=1114111)∨(1114113<=c/\c<=1114138)):DZ [.int .i64 c]=some (0,[.str (bJ c)]):=A9 e
def mV(a0:Nat):Tr:=.fn HX [h a0 9] 1<|aD [h (a0+1) 9]<|aS [jI 4,h3 (a0+2)]<|.lt 3 (.max) [jI 0,h3 (a0+3)]<|.fn IT [.string ⟨⟨[48]⟩⟩,h3 (a0+4)] 1<|.dt 11 (.mk 1) [.string ⟨⟨[85,43]⟩⟩,h (a0+5) 9,h (a0+1) 9]<|.fn eX [h (a0+6) 11] 1<|.ret [h (a0+7) 9]
def wA(a0:Nat)(c:Nat)(f e:Tr):Tr:=.lt 7 (.bin .and) [h a0 7,.int .u64 (15)]<|.lt 4 (.idx) [.string ⟨⟨[48,49,50,51,52,53,54,55,56,57,97,98,99,100,101,102,103,104,105,106,107,108,109,110,111,112,113,114,115,116,117,118,119,120,121,122]⟩⟩,h c 7]<|.lt 7 (.bin .shr) [h a0 7,.int .u64 (4)]<|aH [h (c+2) 7,.int .u64 (16)]<|.br (c+3) f e
def A6i:Tr:=K7 0 1 1114113 (.fn yA [] 1<|aS [h3 0,jI 1114113]<|d7 2 3 4 (.lt 9 (.get 1 0) [h 2 11,h3 3]<|.ret [h 5 9])) (K3 0 2 32 (.ret [.string ⟨⟨[83,112,97,99,101]⟩⟩]) (R5 0 3 126 (.lt 4 (.conv .u8) [h3 0]<|.lt 9 (.mks) [h 4 4]<|.ret [h 5 9]) (.lt 7 (.conv .u64) [h3 0]<|aL [h3 0,jI 0]<|.br 5 (.no) (aH [h 4 7,.int .u64 (16)]<|.br 6 (wA 4 7 (wA 9 11 (wA 13 15 (wA 17 19 (.lt 7 (.bin .and) [h 21 7,.int .u64 (15)]<|.lt 4 (.idx) [.string ⟨⟨[48,49,50,51,52,53,54,55,56,57,97,98,99,100,101,102,103,104,105,106,107,108,109,110,111,112,113,114,115,116,117,118,119,120,121,122]⟩⟩,h 23 7]<|.lt 7 (.bin .shr) [h 21 7,.int .u64 (4)]<|aH [h 25 7,.int .u64 (16)]<|.br 26 (.no) (.lt 4 (.idx) [.string ⟨⟨[48,49,50,51,52,53,54,55,56,57,97,98,99,100,101,102,103,104,105,106,107,108,109,110,111,112,113,114,115,116,117,118,119,120,121,122]⟩⟩,h 25 7]<|.lt 9 (.mks) [h 27 4,h 24 4,h 20 4,h 16 4,h 12 4,h 8 4]<|mV 28)) (.lt 4 (.idx) [.string ⟨⟨[48,49,50,51,52,53,54,55,56,57,97,98,99,100,101,102,103,104,105,106,107,108,109,110,111,112,113,114,115,116,117,118,119,120,121,122]⟩⟩,h 21 7]<|.lt 9 (.mks) [h 23 4,h 20 4,h 16 4,h 12 4,h 8 4]<|mV 24)) (.lt 4 (.idx) [.string ⟨⟨[48,49,50,51,52,53,54,55,56,57,97,98,99,100,101,102,103,104,105,106,107,108,109,110,111,112,113,114,115,116,117,118,119,120,121,122]⟩⟩,h 17 7]<|.lt 9 (.mks) [h 19 4,h 16 4,h 12 4,h 8 4]<|mV 20)) (.lt 4 (.idx) [.string ⟨⟨[48,49,50,51,52,53,54,55,56,57,97,98,99,100,101,102,103,104,105,106,107,108,109,110,111,112,113,114,115,116,117,118,119,120,121,122]⟩⟩,h 13 7]<|.lt 9 (.mks) [h 15 4,h 12 4,h 8 4]<|mV 16)) (.lt 4 (.idx) [.string ⟨⟨[48,49,50,51,52,53,54,55,56,57,97,98,99,100,101,102,103,104,105,106,107,108,109,110,111,112,113,114,115,116,117,118,119,120,121,122]⟩⟩,h 9 7]<|.lt 9 (.mks) [h 11 4,h 8 4]<|mV 12)) (.lt 4 (.idx) [.string ⟨⟨[48,49,50,51,52,53,54,55,56,57,97,98,99,100,101,102,103,104,105,106,107,108,109,110,111,112,113,114,115,116,117,118,119,120,121,122]⟩⟩,h 4 7]<|.lt 9 (.mks) [h 7 4]<|mV 8)))))
def B0M{G}(o:L1 G):M3 prog G 84 [.s 3] DZ [.s 9]:=by
 refine G3 (d:=60) A6i (cxg (B1I.2 o) .nil) o ⟨f84,_,func84,rfl⟩ C6 C6 ?_;intro us outs n;unfold DZ at n;split at n
 .skip;rename_i c;split at n
  .rename_i t;cases n;have q:((el (some nmL)).length:Int)=26:=rfl;unfold A6i;refine w0 (.cons 0 _ (.nil)) ?_;repeat (first|refine w4 (fun g=>?_) fun g=>?_|refine w1 (.idx) (e:=A9y A2 A2) (k':=?_)|(refine w7 [.str _] ?_;rotate_left)|refine kW ?_|refine w31 HX (e:=A2h _ (B1X (A1 rfl) (by intro l f;simp only[B5,K5,or_false]at f;first|omega|(rcases f with rfl|rfl|rfl|rfl|rfl|rfl<;>exact tM _)|(rcases f with rfl|rfl|rfl|rfl|rfl<;>exact tM _)|(rcases f with rfl|rfl|rfl|rfl<;>exact tM _)|(rcases f with rfl|rfl|rfl<;>exact tM _)|(rcases f with rfl|rfl<;>exact tM _)))) (k':=?_)|refine nW ?_|refine w1 (.bin .sub) (e:=SR (B1d (A1 rfl))) (k':=?_)|refine B1a ?_|refine w31 IT (e:=A2x _ _ (B1p (A1 rfl))) (k':=?_)|refine w2 (.mk 1) (r:=rS) (e:=zJ [_,_,_] rfl E7 rfl) (k':=?_)|refine w31 eX (e:=SA _ (B2M (A1 rfl))) (k':=?_)|refine w1 (.bin .and) (e:=SX 4 16 E7 E7 E7) (k':=?_)|refine w1 (.bin .shr) (e:=SS 16 E7 E7) (k':=?_)|refine BM ?_|refine sU ?_|(refine w8 ?_;first|omega)|refine WI ?_|refine HY ?_|refine w1 (.mks) (e:=tR [_] (by intro l f;simp only[B5,K5,or_false]at f;first|omega|(rcases f with rfl|rfl|rfl|rfl|rfl|rfl<;>exact T8 _)|(rcases f with rfl|rfl|rfl|rfl|rfl<;>exact T8 _)|(rcases f with rfl|rfl|rfl|rfl<;>exact T8 _)|(rcases f with rfl|rfl|rfl<;>exact T8 _)|(rcases f with rfl|rfl<;>exact T8 _))) (k':=?_)|refine w31 yA (e:=RG) (k':=?_)|refine dI ?_|refine w1 (.get 1 0) (u:=.str _) (e:=D1 rfl A2 A2 rfl) (k':=?_)|refine fM ?_|refine pZ ?_|refine dC ?_|refine w1 (.mks) (e:=tR [_,_,_,_,_,_] (by intro l f;simp only[B5,K5,or_false]at f;first|omega|(rcases f with rfl|rfl|rfl|rfl|rfl|rfl<;>exact T8 _)|(rcases f with rfl|rfl|rfl|rfl|rfl<;>exact T8 _)|(rcases f with rfl|rfl|rfl|rfl<;>exact T8 _)|(rcases f with rfl|rfl|rfl<;>exact T8 _)|(rcases f with rfl|rfl<;>exact T8 _))) (k':=?_)|refine w1 (.mks) (e:=tR [_,_,_,_,_] (by intro l f;simp only[B5,K5,or_false]at f;first|omega|(rcases f with rfl|rfl|rfl|rfl|rfl|rfl<;>exact T8 _)|(rcases f with rfl|rfl|rfl|rfl|rfl<;>exact T8 _)|(rcases f with rfl|rfl|rfl|rfl<;>exact T8 _)|(rcases f with rfl|rfl|rfl<;>exact T8 _)|(rcases f with rfl|rfl<;>exact T8 _))) (k':=?_)|refine w1 (.mks) (e:=tR [_,_,_,_] (by intro l f;simp only[B5,K5,or_false]at f;first|omega|(rcases f with rfl|rfl|rfl|rfl|rfl|rfl<;>exact T8 _)|(rcases f with rfl|rfl|rfl|rfl|rfl<;>exact T8 _)|(rcases f with rfl|rfl|rfl|rfl<;>exact T8 _)|(rcases f with rfl|rfl|rfl<;>exact T8 _)|(rcases f with rfl|rfl<;>exact T8 _))) (k':=?_)|refine w1 (.mks) (e:=tR [_,_,_] (by intro l f;simp only[B5,K5,or_false]at f;first|omega|(rcases f with rfl|rfl|rfl|rfl|rfl|rfl<;>exact T8 _)|(rcases f with rfl|rfl|rfl|rfl|rfl<;>exact T8 _)|(rcases f with rfl|rfl|rfl|rfl<;>exact T8 _)|(rcases f with rfl|rfl|rfl<;>exact T8 _)|(rcases f with rfl|rfl<;>exact T8 _))) (k':=?_)|refine w1 (.mks) (e:=tR [_,_] (by intro l f;simp only[B5,K5,or_false]at f;first|omega|(rcases f with rfl|rfl|rfl|rfl|rfl|rfl<;>exact T8 _)|(rcases f with rfl|rfl|rfl|rfl|rfl<;>exact T8 _)|(rcases f with rfl|rfl|rfl|rfl<;>exact T8 _)|(rcases f with rfl|rfl|rfl<;>exact T8 _)|(rcases f with rfl|rfl<;>exact T8 _))) (k':=?_))
   all_goals
    first
    | (exfalso;omega)
    | exact F3 (fun z=>[U.str z]) (A8T ‹_›).symm
    | exact F3 (fun z=>[U.str z]) (A8U ‹_›).symm
    | (rw[A8W ‹_› ‹_› ‹_›];rfl)
    | exact F3 (fun z=>[U.str z]) (A1_ (B2p A2 A2) (B2h A2 A2) (PH ‹_› ‹_› ‹_›))
    | exact F3 (fun z=>[U.str z]) (A1_ (B2o A2 A2) (B2g A2 A2) (PH ‹_› ‹_› ‹_›))
    | exact F3 (fun z=>[U.str z]) (A1_ (B2n A2 A2) (B2f A2 A2) (PH ‹_› ‹_› ‹_›))
    | exact F3 (fun z=>[U.str z]) (A1_ (B2m A2 A2) (B2e A2 A2 A2) (PH ‹_› ‹_› ‹_›))
    | exact F3 (fun z=>[U.str z]) (A1_ (B2l A2 A2) (B2d A2 A2 A2) (PH ‹_› ‹_› ‹_›))
  .cases n
 .cases n
end
section
open Go Go.Sx Go.Proofs.Tryz
def dJ(x:Xt):B2:=(if x.2.2.1 / 4%2*4=0 then[]else[67,45])++((if x.2.2.1 / 2%2*2=0 then[]else[77,45])++((if x.2.2.1 / 1%2*1=0 then[]else[83,45])++bJ x.2.1))
def SL(c:Int):(bV c).length<=6:=by
 unfold bV
 (repeat' split)<;>exact A1 rfl
def A7Y:∀ n:Nat,(nmL.getD n []).length<=8:=by
 intro n;rcases F8 n 26 with h|h
 .have k:∀ n:Nat,n<26->(nmL.getD n []).length<=8:=E7;exact k n h
 .rw[B1,fO.2 h];decide
def A8V(c:Int):(bJ c).length<=8:=by
 unfold bJ;split
 .exact A7Y _
 .split
  .decide
  .split
   .exact A1 rfl
   .have:=SL c;rw[E1];show 2+_<=8;omega
def cR(c:Int):Prop:=(32<=c/\c<=126)∨(160<=c/\c<=1114111)∨(1114113<=c/\c<=1114138)
instance(c:Int):Decidable (cR c):=by unfold cR;infer_instance
def A7n{c:Int}(h:q9 c m):cR c:=by unfold q9 chP okU at h;unfold cR;omega
def A6t(h:xP x)(h1:x.1=1):q9 x.2.1 x.2.2.1:=by
 unfold xP W3 at h;rcases h with h|h|h|h
 .exact h.2.2.2.2.2.2
 .omega
 .omega
 .omega
def A0W(h:kyP x):cR x.2.1:=A7n (A6t h.2 h.1)
def lN(x:Xt):Int:=if ¬xP x then 430 else if x.1≠1 then 2 else 0
def yB(x:Xt):B2:=if lN x=0 then dJ x else[]
def A8_(h:(if xP x then(0:Int)else 430)≠0):[U.str [],U.int .i64 (if xP x then(0:Int)else 430)]=[U.str (yB x),U.int .i64 (lN x)]:=by
 have k:=A6u h;have e:lN x=430:=by unfold lN;rw[A9 k]
 unfold yB;rw[A7 k,e,A7 E7]
def A89(h:¬(if xP x then(0:Int)else 430)≠0)(h1:x.1≠1):[U.str [],U.int .i64 2]=[U.str (yB x),U.int .i64 (lN x)]:=by
 have e:lN x=2:=by unfold lN;rw[A7 (fun k=>k (VZ h)),A9 h1]
 unfold yB;rw[e,A7 E7]
def A88(h:¬(if xP x then(0:Int)else 430)≠0)(h1:¬x.1≠1):[U.str (dJ x),U.int .i64 0]=[U.str (yB x),U.int .i64 (lN x)]:=by
 have e:lN x=0:=by unfold lN;rw[A7 (fun k=>k (VZ h)),A7 h1]
 unfold yB;rw[e,A9 rfl]
def A9A(h:¬(if xP x then(0:Int)else 430)≠0)(h1:¬x.1≠1):cR x.2.1:=A0W ⟨D7.1 h1,VZ h⟩
noncomputable def B0u:R3:=⟨_,fun c=>(.cons (B0M c) (.cons (A00 c) .nil))⟩
def yC:List U->Option (Nat×List U)
 | [.int .i64 k,.int .i64 c,.int .i64 m,.int .i64 w,.int .i64 b,.int .i64 r,.int .i64 cl,.str t]=>if cR c then some (0,[.str (dJ (k,c,m,w,b,r,cl,t))])else none
 | _=>none
def RJ(k:Int)(c:Int)(m:Int)(w:Int)(b:Int)(r:Int)(cl:Int)(t:B2)(e:cR c):yC [.int .i64 k,.int .i64 c,.int .i64 m,.int .i64 w,.int .i64 b,.int .i64 r,.int .i64 cl,.str t]=some (0,[.str (dJ (k,c,m,w,b,r,cl,t))]):=A9 e
def pX(a0:Nat)(c:Nat):Tr:=.fn DZ [h3 1] 1<|.dt 11 (.mk 1) [h a0 9,h c 9]<|.fn eX [h (c+1) 11] 1<|.ret [h (c+2) 9]
def A0H(n:Nat):Tr:=pX 15 n
def A0G(n:Nat):Tr:=.fn eX [h 16 11] 1<|pX n (n+1)
def A5O:Tr:=kV 2 4 8 (.dt 11 (.mk 1) [.string ⟨⟨[]⟩⟩,.string ⟨⟨[67,45]⟩⟩]<|.fn eX [h 10 11] 1<|kV 2 2 12 (.dt 11 (.mk 1) [h 11 9,.string ⟨⟨[77,45]⟩⟩]<|.fn eX [h 14 11] 1<|kV 2 1 16 (.dt 11 (.mk 1) [h 15 9,.string ⟨⟨[83,45]⟩⟩]<|.fn eX [h 18 11] 1<|pX 19 20) (A0H 18)) (kV 2 1 14 (.dt 11 (.mk 1) [h 11 9,.string ⟨⟨[83,45]⟩⟩]<|A0G 17) (pX 11 16))) (kV 2 2 10 (.dt 11 (.mk 1) [.string ⟨⟨[]⟩⟩,.string ⟨⟨[77,45]⟩⟩]<|.fn eX [h 12 11] 1<|kV 2 1 14 (.dt 11 (.mk 1) [h 13 9,.string ⟨⟨[83,45]⟩⟩]<|A0G 17) (pX 13 16)) (kV 2 1 12 (.dt 11 (.mk 1) [.string ⟨⟨[]⟩⟩,.string ⟨⟨[83,45]⟩⟩]<|.fn eX [h 14 11] 1<|A0H 16) (.fn DZ [h3 1] 1<|.dt 11 (.mk 1) [.string ⟨⟨[]⟩⟩,h 14 9]<|.fn eX [h 15 11] 1<|.ret [h 16 9])))
def A5P{G}(l:L1 G):M3 prog G 48 [.a [3,3,3,3,3,3,3,9]] yC [.s 9]:=by
 refine G3 (d:=60) A5O (cxg (B0u.2 l) .nil) l ⟨f48,_,func48,rfl⟩ C6 C6 ?_;intro us outs f;unfold yC at f;split at f
 .skip;rename_i k c m w b r cl t;split at f
  .rename_i n;cases f;have o:=A8V c;unfold A5O;refine w0 (.cons 7 _ (.cons 6 _ (.cons 5 _ (.cons 4 _ (.cons 3 _ (.cons 2 _ (.cons 1 _ (.cons 0 _ (.nil))))))))) ?_;repeat (first|refine w2 (.mk 1) (r:=rS) (e:=zJ [_,_] rfl E7 rfl) (k':=?_)|refine w31 eX (e:=SA _ ⟨A3O (m:=1000000) rfl,by simp only[Q6,O9,cA,R2,G5,M8,E1,E4,Y2];omega⟩) (k':=?_)|refine w31 DZ (e:=A4E _ n) (k':=?_)|(refine w7 [.str _] ?_;rotate_left)|refine AO ?_|refine w4 (fun g=>?_) fun g=>?_|refine w1 (.bin .and) (e:=A3r _) (k':=?_)|refine w1 (.bin .and) (e:=A3q _) (k':=?_)|refine w1 (.bin .and) (e:=SW _) (k':=?_))
   all_goals
    refine F3 (fun z=>[U.str z]) ?_;unfold dJ;first|rw[A9 (show m / 4%2*4=0 by omega)]|rw[A7 (show ¬m / 4%2*4=0 by omega)]
    first|rw[A9 (show m / 2%2*2=0 by omega)]|rw[A7 (show ¬m / 2%2*2=0 by omega)]
    first|rw[A9 (show m / 1%2*1=0 by omega)]|rw[A7 (show ¬m / 1%2*1=0 by omega)]
    simp only[Q6,O9,cA,R2,G5,M8]<;>first|done|rfl
  .cases f
 .cases f
noncomputable def B1J:R3:=⟨_,fun c=>(.cons (A0t c) (.cons (A5P c) .nil))⟩
def A6o:List U->Option (Nat×List U)
 | [.int .i64 k,.int .i64 c,.int .i64 m,.int .i64 w,.int .i64 b,.int .i64 r,.int .i64 cl,.str t]=>if -9223372036854775808<=m/\m<=9223372036854775807/\(t.length:Int)<=140737488351232 then some (0,[.str (yB (k,c,m,w,b,r,cl,t)),.int .i64 (lN (k,c,m,w,b,r,cl,t))])else none
 | _=>none
def A6n:Tr:=.fn rJ [h3 0,h3 1,h3 2,h3 3,h3 4,h3 5,h3 6,h 7 9] 1<|S4 8 9 0 (.ret [.string ⟨⟨[]⟩⟩,h3 8]) (S4 0 10 1 (.ret [.string ⟨⟨[]⟩⟩,jI 2]) (.fn yC [h3 0,h3 1,h3 2,h3 3,h3 4,h3 5,h3 6,h 7 9] 1<|.ret [h 11 9,jI 0]))
def B1U{G}(l:L1 G):M3 prog G 18 [.a [3,3,3,3,3,3,3,9]] A6o [.s 9,.s 3]:=by
 refine G3 (d:=60) A6n (cxg (B1J.2 l) .nil) l ⟨f18,_,func18,rfl⟩ C6 C6 ?_;intro us outs f;unfold A6o at f;split at f
 .skip;rename_i k c m w b r cl t;split at f
  .rename_i n;cases f;unfold A6n;refine w0 (.cons 7 _ (.cons 6 _ (.cons 5 _ (.cons 4 _ (.cons 3 _ (.cons 2 _ (.cons 1 _ (.cons 0 _ (.nil))))))))) ?_;repeat (first|(refine w7 [.str _,.int .i64 _] ?_;rotate_left)|refine AO ?_|refine w4 (fun g=>?_) fun g=>?_|refine w31 rJ (e:=FV _ _ _ _ _ _ _ _ n) (k':=?_)|refine w31 yC (e:=RJ _ _ _ _ _ _ _ _ (A9A (x:=(k,c,m,w,b,r,cl,t)) ‹_› ‹_›)) (k':=?_))
   all_goals
    first
    | exact A8_ (x:=(k,c,m,w,b,r,cl,t)) ‹_›
    | exact A89 (x:=(k,c,m,w,b,r,cl,t)) ‹_› ‹_›
    | exact A88 (x:=(k,c,m,w,b,r,cl,t)) ‹_› ‹_›
  .cases f
 .cases f
def niF(s:B2)(a:B2):Bool:=decide (a=s)
def hD(b:UInt8):Int:=if 48<=b.toNat/\b.toNat<=57 then b.toNat-48 else if 65<=b.toNat/\b.toNat<=70 then b.toNat-55 else -1
def hR:B2->Int->Option Int
 | [],n=>some n
 | b::l,n=>if hD b<0 then none else hR l (16*n+hD b)
def hE(s:B2)(i n:Int):Option Unit:=match hR (s.drop i.toNat) n with
 | some _=>none
 | none=>some ()
def hV(s:B2)(i n:Int):Int:=(hR (s.drop i.toNat) n).getD 0
def DL(s:B2):Int:=match J2 (niF s) nmL 0 with
 | some j=>1114113+j
 | none=>if s=[83,112,97,99,101]then 32 else if s.length=1 then((s.getD 0 0).toNat:Int)else if s.length<6∨8<s.length∨s.take 2≠[85,43]then -1 else(hR (s.drop 2) 0).getD (-1)
def B2V{s:B2}(h:J2 (niF s) nmL 0=some j):DL s=1114113+j:=by unfold DL;rw[h]
def B0C{s:B2}(h:J2 (niF s) nmL 0=none):DL s=if s=[83,112,97,99,101]then 32 else if s.length=1 then((s.getD 0 0).toNat:Int)else if s.length<6∨8<s.length∨s.take 2≠[85,43]then -1 else(hR (s.drop 2) 0).getD (-1):=by unfold DL;rw[h]
def A9C{s a:B2}(h:a=s):niF s a=true:=J6 h
def A0D{s a:B2}(h:¬a=s):niF s a=false:=E0 h
def stp(p:B2)(v:Int)(a:B2×Int):B2×Int:=if 2<a.1.length/\a.1.take 2=p then(a.1.drop 2,a.2+v)else a
def kF(s:B2):Xt:=(1,DL (stp [83,45] 1 (stp [77,45] 2 (stp [67,45] 4 (s,0)))).1,(stp [83,45] 1 (stp [77,45] 2 (stp [67,45] 4 (s,0)))).2,0,0,0,0,[])
def X0:Xt:=(0,0,0,0,0,0,0,[])
def yR(s:B2):Xt:=if kyP (kF s)/\dJ (kF s)=s then kF s else X0
def BD(s:B2):Int:=if kyP (kF s)/\dJ (kF s)=s then 0 else 6
def l9{g a2 a3 a4 a5 l c e f:Int}(h:x=(g,a2,a3,a4,a5,l,c,a8))(k:f=e):[U.int .i64 g,.int .i64 a2,.int .i64 a3,.int .i64 a4,.int .i64 a5,.int .i64 l,.int .i64 c,.str a8,.int .i64 e]=[U.int .i64 x.1,.int .i64 x.2.1,.int .i64 x.2.2.1,.int .i64 x.2.2.2.1,.int .i64 x.2.2.2.2.1,.int .i64 x.2.2.2.2.2.1,.int .i64 x.2.2.2.2.2.2.1,.str x.2.2.2.2.2.2.2,.int .i64 f]:=by subst h k;rfl
noncomputable def B05:R3:=⟨_,fun c=>(.cons (A0B c) .nil)⟩
def rM:List U->Option (Nat×List U)
 | [u_l,.str v,.int .i64 n,.int .i64 i]=>(L4 rS u_l).bind fun l=>if n=((el l).length:Int)/\0<=i/\i<=n/\n<=140737488351232 then X5 (J2 (niF v) ((el l).drop i.toNat) i) [] (fun j=>[.int .i64 j])else none
 | _=>none
def rL(l:(Option (List B2)))(v:B2)(n:Int)(i:Int)(c:n=((el l).length:Int)/\0<=i/\i<=n/\n<=140737488351232):rM [D9 rS l,.str v,.int .i64 n,.int .i64 i]=X5 (J2 (niF v) ((el l).drop i.toNat) i) [] (fun j=>[.int .i64 j]):=by
 simp only[rM,I0,F5];exact A9 c
def A05:S0:=⟨[(0,dat 17 0 11),(1,h 1 9),(7,h 2 3),(8,h 3 3)],[(17,.frz)],4,[⟨.exit 0,[],[],0⟩,⟨.ret,[(4,h 0 3)],[],1⟩]⟩
noncomputable def A06:Code:=(f88.body).getD .skip
noncomputable def A5x:Code:=match G6 [true,false,true,false] A06 with|some (.loop x)=>x|_=>.skip
def A04:f88.body=some A06:=rfl
def A01:G6 [true,false,true,false] A06=some (.loop A5x):=C6
def A5y:Tr:=W9 3 2 4 (d7 0 3 5 (.lt 9 (.get 1 0) [h 0 11,h3 3]<|aE [h 1 9,h 6 9]<|.br 7 (.ret [jI 1,h3 3]) (aA [h3 3,jI 1]<|.ret [jI (-1),h 0 11,h 1 9,h3 2,h3 8]))) (I2 0)
def A03:List U->Nat
 | [u_l,.str v,.int .i64 n,.int .i64 i]=>(match L4 rS u_l with|some l=>(n-i).toNat|none=>0)
 | _=>0
def A02(l:(Option (List B2)))(v:B2)(n:Int)(i:Int):A03 [D9 rS l,.str v,.int .i64 n,.int .i64 i]=(n-i).toNat:=by
 simp only[A03,I0]
def A5z{G}(s:L1 G):∀ (E:Nat->U) (base:Nat),@R0 ⟨E,G⟩ prog base gl f88.ntmps A5x (N0 prog gl n0 18 A05 rM):=by
 refine U5 (dep:=60) (f:=88) (n0:=n0) (nB:=18) (H0:=H0) A03 A5y (cxg (B05.2 s) .nil) s func88 A04 A01 C6 C6 C6 ?_;intro us d outs o;have w:=o;unfold rM at o;split at o
 .skip;rename_i A v n i;have t:=B3.1 o;clear o;obtain⟨l,c,o⟩:=t;replace c:=I6 c;subst c;split at o
  .rename_i q;clear o w;refine⟨rfl,?_⟩;unfold A5y;refine w0 (.cons 3 _ (.cons 2 _ (.cons 1 _ (.cons 0 _ (.nil))))) ?_;repeat (first|refine w4 (fun g=>?_) fun g=>?_|refine dU ?_|refine Y5 ?_|refine dC ?_|refine dI ?_|refine w1 (.get 1 0) (u:=.str _) (e:=D1 rfl A2 A2 rfl) (k':=?_)|refine MU ?_|(refine w7 [.int .i64 _,.int .i64 _] ?_;rotate_left)|(refine w7 [.int .i64 _,D9 rS _,.str _,.int .i64 _,.int .i64 _] ?_;rotate_left)|(refine w8 ?_;first|omega)|(refine w7 [.int .i64 _] ?_;rotate_left))
   all_goals first
    | refine N2 ?_ ?_
      .rw[rL l v n (i+1) ⟨q.1,A2,A2,q.2.2.2⟩,rL l v n i q,Z6 (i:=i) q.2.1 A2 (A0D (fun h=>(by assumption:¬_=_) (by first|exact h|exact h.symm)))]
      .rw[A02,A02];omega
    | refine I5 (d:=0) ?_
      rw[rL l v n i q,u9 A2];rfl
    | refine I5 (d:=1) ?_
      rw[rL l v n i q,u7 (i:=i) q.2.1 A2 (A9C (by first|assumption|(symm;assumption)))];rfl
  .cases o
 .cases o
noncomputable def A2T:List LpE:=[(88,([true,false,true,false],N0 prog gl n0 18 A05 rM))]
def vL{G}(c:L1 G):Y1 prog G gl A2T:=(.cons func88 A04 A01 (A5z c) .nil)
def yF(c:Int):Int:=if c / 32%2=1 then c else c+32
def A7e{c:Int}(h0:0<=c)(h1:c<=255):IntKind.u8.wrap ((BitVec.ofInt IntKind.u8.bits c ||| BitVec.ofInt IntKind.u8.bits 32).toNat)=yF c:=by
 obtain⟨n,rfl⟩:∃ n:Nat,c=n:=⟨c.toNat,A2⟩;have e:n<256:=A2;have:((List.range 256).all fun n=>decide (IntKind.u8.wrap ((BitVec.ofInt IntKind.u8.bits (n:Int) ||| BitVec.ofInt IntKind.u8.bits 32).toNat)=yF n))=true:=C6;exact G7 (D4.1 this n (W1.2 e))
noncomputable def B0v:R3:=⟨_,fun c=>.nil⟩
def yE:List U->Option (Nat×List U)
 | [.int .u8 c]=>if 0<=c/\c<=255 then some (0,[.int .u8 (yF c)])else none
 | _=>none
def A3J(c:Int)(e:0<=c/\c<=255):yE [.int .u8 c]=some (0,[.int .u8 (yF c)]):=A9 e
def A5R:Tr:=.lt 4 (.bin .or) [h 0 4,.int .u8 (32)]<|.ret [h 1 4]
def A5S{G}(f:L1 G):M3 prog G 126 [.s 4] yE [.s 4]:=by
 refine G3 (d:=60) A5R (cxg (B0v.2 f) (vL f)) f ⟨f126,_,func126,rfl⟩ C6 C6 ?_;intro us outs g;unfold yE at g;split at g
 .skip;rename_i c;split at g
  .rename_i l;cases g;unfold A5R;refine w0 (.cons 0 _ (.nil)) ?_;repeat (first|refine w1 (.bin .or) (e:=OV 8 256 128 E7 E7 A2 A2 A2 A2 A2) (k':=?_)|refine w1 (.bin .or) (e:=A1W 8 256 128 E7 E7 A2 A2 A2 A2 A2) (k':=?_)|refine w1 (.bin .or) (e:=OV 16 65536 128 E7 E7 A2 A2 A2 A2 A2) (k':=?_)|refine w1 (.bin .or) (e:=A1W 16 65536 128 E7 E7 A2 A2 A2 A2 A2) (k':=?_)|refine w1 (.bin .or) (e:=SU _ _ _) (k':=?_)|(refine w7 [.int .u8 _] ?_;rotate_left))
   all_goals
    exact F3 (fun z=>[U.int .u8 z]) (A7e l.1 l.2)
  .cases g
 .cases g
def DM:List U->Option (Nat×List U)
 | [.str s]=>if(s.length:Int)<=140737488351232 then some (0,[.str (s)])else none
 | _=>none
def A38(s:B2)(c:(s.length:Int)<=140737488351232):DM [.str s]=some (0,[.str (s)]):=A9 c
def A6Z{G}(f:L1 G):M3 prog G 143 [.s 9] DM [.s 9]:=by
 intro us outs w vs R e c g hR;unfold DM at c;split at c
 .skip;rename_i s;split at c
  .rename_i l;cases c;have hv:=U9 (vs2:=[.string ⟨⟨s⟩⟩]) e rfl;subst hv;refine gF (vr:=[.string ⟨⟨s⟩⟩]) func143 rfl C6 rfl ?_;exact Tryz.stringslite_Clone ⟨⟨s⟩⟩ w (by show s.length<=_;omega)
  .cases c
 .cases c
def hv(c:Int):Int:=if 48<=c/\c<=57 then c-48 else if 65<=c/\c<=70 then c-55 else if 97<=c/\c<=102 then c-87 else -1
def pu:List Int->Int->Option Int
 | [],n=>some n
 | c::l,n=>if hv c<0 then none else pu l (n*16+hv c)
def puE(l:List Int)(n:Int):Option Int:=match pu l n with
 | none=>some 0
 | some _=>none
def puV(l:List Int)(n:Int):Int:=(pu l n).getD 0
def A7f{c:Int}(h0:0<=c)(h1:c<=255):0<=yF c/\yF c<=255:=by unfold yF;split<;>omega
def A7s{c:Int}(h0:0<=c)(h1:c<=255):hv c=if 48<=c/\c<=57 then c-48 else if 97<=yF c/\yF c<=102 then yF c-87 else -1:=by
 unfold hv yF;repeat' split;all_goals omega
def A3a{l:List Int}(h:∀ x ∈ l,0<=x/\x<=255)(i:Nat):0<=l.getD i default/\l.getD i default<=255:=by
 rw[B1];cases hx:l[i]? with
 | none=>decide
 | some x=>exact h x (C8 hx)
def A80{l:List Int}{n:Int}(h0:0<=i)(h1:i<(l.length:Int)):pu (l.drop i.toNat) n=if hv (l.getD i.toNat default)<0 then none else pu (l.drop (i+1).toNat) (n*16+hv (l.getD i.toNat default)):=by
 rw[U1 l h0 h1];rfl
def A25{l:List Int}{n:Int}(h0:0<=i)(h1:i<(l.length:Int))(c:hv (l.getD i.toNat default)=d)(e:0<=d):puE (l.drop i.toNat) n=puE (l.drop (i+1).toNat) (n*16+d)/\puV (l.drop i.toNat) n=puV (l.drop (i+1).toNat) (n*16+d):=by
 unfold puE puV;rw[A80 h0 h1,c,A7 A2];exact⟨rfl,rfl⟩
def A7Q{l:List Int}{n:Int}(h0:0<=i)(h1:i<(l.length:Int))(c:hv (l.getD i.toNat default)<0):puE (l.drop i.toNat) n=some 0:=by
 unfold puE;rw[A80 h0 h1,A9 c]
def A7R{l:List Int}{n:Int}(h1:(l.length:Int)<=i):puE (l.drop i.toNat) n=none/\puV (l.drop i.toNat) n=n:=by
 unfold puE puV;rw[show l.drop i.toNat=[]from R8 A2];exact⟨rfl,rfl⟩
def A7T(h0:0<=i)(h1:i<6):(16:Int) ^ (i+1).toNat=16*16 ^ i.toNat/\(16:Int) ^ i.toNat<=1048576:=by
 obtain⟨n,rfl⟩:∃ n:Nat,i=n:=⟨i.toNat,A2⟩;have:n=0∨n=1∨n=2∨n=3∨n=4∨n=5:=A2;rcases this with rfl|rfl|rfl|rfl|rfl|rfl<;>decide
noncomputable def B0p:R3:=⟨_,fun c=>(.cons (A5S c) (.cons (A6Z c) .nil))⟩
def oE:List U->Option (Nat×List U)
 | [.str z0,.int .u64 n,u_b,.int .i64 k,.int .i64 i]=>(L4 rB u_b).bind fun b=>if k=((el b).length:Int)/\0<=i/\i<=k/\k<=6/\(∀ x ∈ el b,0<=x/\x<=255)/\0<=n/\n<16 ^ i.toNat then X5 (puE ((el b).drop i.toNat) n) [.int .u64 (puV ((el b).drop i.toNat) n),.str z0] (fun j=>[.int .u64 j])else none
 | _=>none
def qW(z0:B2)(n:Int)(b:pF)(k:Int)(i:Int)(c:k=((el b).length:Int)/\0<=i/\i<=k/\k<=6/\(∀ x ∈ el b,0<=x/\x<=255)/\0<=n/\n<16 ^ i.toNat):oE [.str z0,.int .u64 n,D9 rB b,.int .i64 k,.int .i64 i]=X5 (puE ((el b).drop i.toNat) n) [.int .u64 (puV ((el b).drop i.toNat) n),.str z0] (fun j=>[.int .u64 j]):=by
 simp only[oE,I0,F5];exact A9 c
def A4_:S0:=⟨[(1,.int .i64 (16)),(8,.bool false),(9,h 0 9),(10,.int .u64 (1152921504606846976)),(11,.int .u64 (4294967295)),(12,.bool false),(13,h 1 7),(99,own 19 2 11),(100,h 3 3),(101,h 4 3)],[(19,.sq 2 11 5 20),(20,.frz)],5,[⟨.exit 3,[(13,h 0 7),(12,.bool false),(9,h 1 9)],[],2⟩,⟨.ret,[(6,h 0 7),(7,.iface 174 (.int .i64 (2)))],[],1⟩]⟩
noncomputable def ZH:Code:=(f109.body).getD .skip
noncomputable def A46:Code:=match G6 [true,true,true,true,true,true,true,true,true,true,true,false,true,false] ZH with|some (.loop x)=>x|_=>.skip
def A49:f109.body=some ZH:=rfl
def A48:G6 [true,true,true,true,true,true,true,true,true,true,true,false,true,false] ZH=some (.loop A46):=C6
def ZE(n:Nat):Tr:=.fn yE [h 7 4] 1<|aQ [.int .u8 (97),h n 4]<|.br (n+1) (.fn yE [h 7 4] 1<|aQ [h (n+2) 4,.int .u8 (122)]<|.br (n+3) (.fn yE [h 7 4] 1<|.lt 4 (.bin .sub) [h (n+4) 4,.int .u8 (97)]<|.lt 4 (.bin .add) [h (n+5) 4,.int .u8 (10)]<|aH [h (n+6) 4,.int .u8 (16)]<|.br (n+7) (.ret [jI 1,.int .u64 (0)]) (aH [h 1 7,.int .u64 (1152921504606846976)]<|.br (n+8) (.no) (.lt 7 (.bin .mul) [h 1 7,.int .u64 (16)]<|.lt 7 (.conv .u64) [h (n+6) 4]<|.lt 7 (.bin .add) [h (n+9) 7,h (n+10) 7]<|aL [h (n+11) 7,h (n+9) 7]<|.br (n+12) (.no) (aG [h (n+11) 7,.int .u64 (4294967295)]<|.br (n+13) (.no) (aA [h3 4,jI 1]<|.ret [jI (-1),h 0 9,h (n+11) 7,h 2 11,h3 3,h3 (n+14)]))))) (.ret [jI 1,.int .u64 (0)])) (.ret [jI 1,.int .u64 (0)])
def ZD(n:Nat):Tr:=aQ [.int .u8 (48),h 7 4]<|.br n (aQ [h 7 4,.int .u8 (57)]<|.br (n+1) (.lt 4 (.bin .sub) [h 7 4,.int .u8 (48)]<|aH [h (n+2) 4,.int .u8 (16)]<|.br (n+3) (.ret [jI 1,.int .u64 (0)]) (aH [h 1 7,.int .u64 (1152921504606846976)]<|.br (n+4) (.no) (.lt 7 (.bin .mul) [h 1 7,.int .u64 (16)]<|.lt 7 (.conv .u64) [h (n+2) 4]<|.lt 7 (.bin .add) [h (n+5) 7,h (n+6) 7]<|aL [h (n+7) 7,h (n+5) 7]<|.br (n+8) (.no) (aG [h (n+7) 7,.int .u64 (4294967295)]<|.br (n+9) (.no) (aA [h3 4,jI 1]<|.ret [jI (-1),h 0 9,h (n+7) 7,h 2 11,h3 3,h3 (n+10)]))))) (ZE (n+2))) (ZE (n+1))
def A47:Tr:=W9 4 3 5 (d7 2 4 6 (.lt 4 (.get 1 0) [h 2 11,h3 4]<|aE [h 7 4,.int .u8 (95)]<|.br 8 (ZD 9) (ZD 9))) (.ret [jI 0,h 1 7,h 0 9])
def ZG:List U->Nat
 | [.str z0,.int .u64 n,u_b,.int .i64 k,.int .i64 i]=>(match L4 rB u_b with|some b=>(k-i).toNat|none=>0)
 | _=>0
def ZF(z0:B2)(n:Int)(b:pF)(k:Int)(i:Int):ZG [.str z0,.int .u64 n,D9 rB b,.int .i64 k,.int .i64 i]=(k-i).toNat:=by
 simp only[ZG,I0]
def A8z{G}(s:L1 G):∀ (E:Nat->U) (base:Nat),@R0 ⟨E,G⟩ prog base gl f109.ntmps A46 (N0 prog gl n0 21 A4_ oE):=by
 refine U5 (dep:=60) (f:=109) (n0:=n0) (nB:=21) (H0:=H0) ZG A47 (cxg (B0p.2 s) (vL s)) s func109 A49 A48 C6 C6 C6 ?_;intro us d outs o;have A:=o;unfold oE at o;split at o
 .skip;rename_i z0 n H k i;have t:=B3.1 o;clear o;obtain⟨b,l,o⟩:=t;replace l:=I6 l;subst l;split at o
  .rename_i c;clear o A;have w:=A3a c.2.2.2.2.1 i.toNat;have hh:=A7s w.1 w.2;have I:=A7f w.1 w.2;have B:=fun h=>A7T (i:=i) c.2.1 h
   refine⟨rfl,?_⟩;unfold A47;refine w0 (.cons 4 _ (.cons 3 _ (.cons 2 _ (.cons 1 _ (.cons 0 _ (.nil)))))) ?_;repeat (first|refine w4 (fun g=>?_) fun g=>?_|refine dU ?_|refine Y5 ?_|(refine w8 ?_;first|omega|(have B:=A7T (i:=i) c.2.1 A2;omega))|(refine w7 [.int .i64 _,.int .u64 _] ?_;rotate_left)|refine pZ ?_|refine WI ?_|refine HY ?_|refine kW ?_|refine B1Y ?_|refine A8g ?_|refine BM ?_|refine sU ?_|refine w31 yE (e:=A3J _ A2) (k':=?_)|refine dC ?_|refine wW ?_|(refine w7 [.int .i64 _,.str _,.int .u64 _,D9 rB _,.int .i64 _,.int .i64 _] ?_;rotate_left)|refine dI ?_|refine w1 (.get 1 0) (u:=.int .u8 _) (e:=D1 rfl A2 A2 rfl) (k':=?_)|refine fM ?_|(refine w7 [.int .i64 _,.int .u64 _,.str _] ?_;rotate_left))
   all_goals first
    | refine N2 ?_ ?_
      .have B:=A7T (i:=i) c.2.1 A2;have D:∀ d,hv ((el b).getD i.toNat default)=d->0<=d->d<16->oE [.str z0,.int .u64 (n*16+d),D9 rB b,.int .i64 k,.int .i64 (i+1)]=oE [.str z0,.int .u64 n,D9 rB b,.int .i64 k,.int .i64 i]:=fun d F C h3=>by
        have q:=A25 (n:=n) c.2.1 (by omega:i<((el b).length:Int)) F C;rw[qW _ _ _ _ _ ⟨c.1,A2,A2,c.2.2.2.1,c.2.2.2.2.1,A2,A2⟩,qW _ _ _ _ _ c,q.1,q.2]
       exact D _ A2 A2 A2
      .rw[ZF,ZF];omega
    | refine I5 (d:=0) ?_
      have q:=A7R (n:=n) (by omega:((el b).length:Int)<=i);rw[qW _ _ _ _ _ c,q.1,q.2];rfl
    | refine I5 (d:=1) ?_
      rw[qW _ _ _ _ _ c,A7Q c.2.1 A2 A2];rfl
  .cases o
 .cases o
noncomputable def A2S:List LpE:=[(109,([true,true,true,true,true,true,true,true,true,true,true,false,true,false],N0 prog gl n0 21 A4_ oE)),(88,([true,false,true,false],N0 prog gl n0 18 A05 rM))]
def MJ{G}(c:L1 G):Y1 prog G gl A2S:=(.cons func109 A49 A48 (A8z c) (.cons func88 A04 A01 (A5z c) .nil))
def puB(s:B2):Int:=if s=[]then -1 else(pu (bI s) 0).getD (-1)
def kE(s:B2):Int:=match J2 (niF s) nmL 0 with
 | some j=>1114113+j
 | none=>if s=[83,112,97,99,101]then 32 else if s.length=1 then((s.getD 0 0).toNat:Int)else if s.take 2=[85,43]/\s.length<=8 then puB (s.drop 2)else -1
def A6L{α:Type}{p:α->Bool}:∀ {l:List α} {i j:Int},J2 p l i=some j->i<=j/\j<i+l.length
 | [],i,j,h=>by cases h
 | a::l,i,j,h=>by
   unfold J2 at h;split at h
   .cases h;simp only[E4];omega
   .have:=A6L h;simp only[E4];omega
def A5L{s:B2}(h:J2 (niF s) (List.drop (0:Int).toNat (el (some nmL))) 0=some v):0<=v/\v<26:=by
 have:=A6L h;have e:((List.drop (0:Int).toNat (el (some nmL))).length:Int)=26:=rfl;omega
def B0Q(s:B2):∀ x ∈ el (some (bI s)),0<=x/\x<=255:=fun x h=>by have:=A2F (s:=s) h;omega
def B0R{s:B2}{n:Int}(h:(s.length:Int)<=n):((el (some (bI s))).length:Int)<=n:=by show((bI s).length:Int)<=n;rw[PL];exact h
def B0D{s:B2}(h:J2 (niF s) nmL 0=some v):kE s=1114113+v:=by unfold kE;rw[h]
def VJ{s:B2}(h:J2 (niF s) nmL 0=none):kE s=if s=[83,112,97,99,101]then 32 else if s.length=1 then((s.getD 0 0).toNat:Int)else if s.take 2=[85,43]/\s.length<=8 then puB (s.drop 2)else -1:=by unfold kE;rw[h]
def A5A:∀ {l:List Int} {n v:Int},0<=n->pu l n=some v->0<=v/\v<(n+1)*16 ^ l.length
 | [],n,v,h0,h=>by cases h;simp;omega
 | c::l,n,v,h0,h=>by
   unfold pu at h;split at h
   .cases h
   .have e:hv c<16:=by unfold hv;(repeat' split)<;>omega
    have q:=A5A A2 h;have hp:(0:Int)<=16 ^ l.length:=Int.le_of_lt (Int.pow_pos E7);have hm:=Int.mul_le_mul_of_nonneg_right (show n*16+hv c+1<=(n+1)*16 by omega) hp;rw[Int.mul_assoc]at hm;rw[E4,Int.pow_succ,Int.mul_comm ((16:Int) ^ l.length) 16];omega
def B1w{s:B2}(g:(s.length:Int)<=6)(h:puE (List.drop (0:Int).toNat (el (some (bI s)))) 0=none):IntKind.i64.wrap (puV (List.drop (0:Int).toNat (el (some (bI s)))) 0)=(pu (bI s) 0).getD (-1):=by
 have e:List.drop (0:Int).toNat (el (some (bI s)))=bI s:=rfl;rw[e]at h ⊢;unfold puE at h;unfold puV;cases c:pu (bI s) 0 with
 | none=>rw[c]at h;cases h
 | some v =>
   have q:=A5A E7 c;rw[PL]at q;have f:(16:Int) ^ s.length<=16 ^ 6:=by
    have:=cY (n:=16) E7 (show s.length<=6 by omega)
    exact_mod_cast this
   show IntKind.i64.wrap v=v;exact iM A2 A2
def B1v{s:B2}(h:puE (List.drop (0:Int).toNat (el (some (bI s)))) 0=some j):(pu (bI s) 0).getD (-1) = -1:=by
 have e:List.drop (0:Int).toNat (el (some (bI s)))=bI s:=rfl;rw[e]at h;unfold puE at h;cases c:pu (bI s) 0 with
 | none=>rfl
 | some v=>rw[c]at h;cases h
def A81{s:B2}(h:s=[]):puB s = -1:=A9 h
def ZI{s:B2}(h:¬s=[]):puB s=(pu (bI s) 0).getD (-1):=A7 h
def A8P{s:B2}(h:J2 (niF s) nmL 0=none)(h1:¬s=[83,112,97,99,101])(e:¬(s.length:Int)=1)(h3:¬¬List.take ((2:Int).toNat-(0:Int).toNat) (List.drop (0:Int).toNat s)=[85,43])(c:((List.drop (2:Int).toNat s).length:Int)<=6):kE s=puB (List.drop (2:Int).toNat s):=by
 rw[VJ h,A7 h1,A7 A2,A9 ⟨D7.1 h3,by rw[E9]at c;simp at c;omega⟩];rfl
def A8O{s:B2}(h:J2 (niF s) nmL 0=none)(h1:¬s=[83,112,97,99,101])(c:¬(s.length:Int)=1)(h3:¬(s.take 2=[85,43]/\s.length<=8)):kE s = -1:=by
 rw[VJ h,A7 h1,A7 A2,A7 h3]
def B2Y{s:B2}(h:J2 (niF s) nmL 0=none)(h1:¬s=[83,112,97,99,101])(c:(s.length:Int)=1):kE s=((s.getD 0 0).toNat:Int):=by
 rw[VJ h,A7 h1,A9 A2]
def B2X{s:B2}(h:¬2<=(s.length:Int)):¬(s.take 2=[85,43]/\s.length<=8):=fun k=>by have:=F3 List.length k.1;rw[I8]at this;simp at this;omega
def B2W{s:B2}(h:¬((List.drop (2:Int).toNat s).length:Int)<=6):¬(s.take 2=[85,43]/\s.length<=8):=fun k=>by rw[E9]at h;have:=k.2;simp at h;omega
noncomputable def B1E:R3:=⟨_,fun c=>(.cons (A0B c) (.cons (A5S c) (.cons (A6Z c) .nil)))⟩
def LS:List U->Option (Nat×List U)
 | [.str s]=>if(s.length:Int)<=140737488351232 then some (0,[.int .i64 (kE s)])else none
 | _=>none
def A36(s:B2)(c:(s.length:Int)<=140737488351232):LS [.str s]=some (0,[.int .i64 (kE s)]):=A9 c
def A12(n:Nat):Tr:=aE [h 0 9,.string ⟨⟨[83,112,97,99,101]⟩⟩]<|.br n (I2 32) (aD [h 0 9]<|K3 (n+1) (n+2) 1 (.lt 4 (.idx) [h 0 9,jI 0]<|.lt 3 (.conv .i64) [h (n+3) 4]<|.ret [h3 (n+4)]) (I2 (-1)))
def y0(a0:Int)(c:Nat)(a2:Nat)(f e:Tr):Tr:=aD [h c 9]<|aH [h3 a2,jI a0]<|.br (a2+1) f e
def A11(n:Nat):Tr:=y0 2 0 n (.lt 9 (.sub) [h 0 9,jI 0,jI 2]<|aE [h (n+2) 9,.string ⟨⟨[85,43]⟩⟩]<|M5 (n+3) (n+4) (A12 (n+5)) (.lt 9 (.sub1) [h 0 9,jI 2]<|aE [h 0 9,.string ⟨⟨[83,112,97,99,101]⟩⟩]<|.br (n+6) (I2 32) (aD [h 0 9]<|K3 (n+7) (n+8) 1 (.lt 4 (.idx) [h 0 9,jI 0]<|.lt 3 (.conv .i64) [h (n+9) 4]<|.ret [h3 (n+10)]) (aD [h (n+5) 9]<|R5 (n+9) (n+10) 6 (aE [h (n+5) 9,.string ⟨⟨[]⟩⟩]<|.br (n+11) (.fn DM [h (n+5) 9] 1<|I2 (-1)) (.dt 11 (.byt) [h (n+5) 9]<|aD [h (n+12) 11]<|.lp oE [h (n+5) 9,.int .u64 (0),h (n+12) 11,h3 (n+13),jI 0] 0 2 (.lt 3 (.conv .i64) [h (n+14) 7]<|.ret [h3 (n+16)]) (.lp oE [h (n+5) 9,.int .u64 (0),h (n+12) 11,h3 (n+13),jI 0] 1 1 (.fn DM [h (n+5) 9] 1<|I2 (-1)) (.no)))) (I2 (-1)))))) (A12 (n+2))
def A6X:Tr:=.fn yA [] 1<|aD [h 1 11]<|.lp rM [h 1 11,h 0 9,h3 2,jI 0] 0 0 (A11 3) (.lp rM [h 1 11,h 0 9,h3 2,jI 0] 1 1 (K7 3 4 0 (aA [jI 1114113,h3 3]<|.ret [h3 5]) (A11 5)) (.no))
def B0F{G}(c:L1 G):M3 prog G 51 [.s 9] LS [.s 3]:=by
 refine G3 (d:=60) A6X (cxg (B1E.2 c) (MJ c)) c ⟨f51,_,func51,rfl⟩ C6 C6 ?_;intro us outs f;unfold LS at f;split at f
 .skip;rename_i s;split at f
  .rename_i n;cases f;have l:=A60 (s.getD (0:Int).toNat 0);unfold A6X;refine w0 (.cons 0 _ (.nil)) ?_;repeat (first|(refine w7 [.int .i64 _] ?_;rotate_left)|refine w4 (fun g=>?_) fun g=>?_|refine BM ?_|refine sU ?_|refine nW ?_|refine MU ?_|refine fM ?_|refine w1 (.idx) (e:=OW _ _ _ A2 A2) (k':=?_)|refine w31 DM (e:=A38 _ A2) (k':=?_)|refine jU ?_|refine kW ?_|refine w1 (.sub) (e:=nP _ _ _ _ _ A2 A2 A2) (k':=?_)|refine j9 ?_|refine w1 (.sub1) (e:=nO _ _ _ A2 A2) (k':=?_)|refine pZ ?_|refine w2 (.byt) (r:=rB) (e:=A3p _ rfl) (k':=?_)|(refine w6 oE (qW _ _ _ _ _ ⟨by first|rfl,E7,by first|omega,by first|exact B0R ‹_›,by first|exact B0Q _,E7,E7⟩) (h0:=fun g=>?_) (h1:=fun v g=>?_);show Wk _ _ (.cons _ _ (.cons _ _ _));rotate_left;show Wk _ _ (.cons _ _ _);rotate_right)|refine dU ?_|refine Y5 ?_|refine w31 yA (e:=RG ) (k':=?_)|(refine w6 rM (rL _ _ _ _ ⟨rfl,E7,by show(0:Int)<=26;decide,by show(26:Int)<=_;decide⟩) (h0:=fun g=>?_) (h1:=fun v g=>?_);skip;rotate_left;show Wk _ _ (.cons _ _ _);rotate_right))
   all_goals
    refine l0 ?_;symm;first
    | (exfalso;have:=A5L ‹_›;omega)
    | (have hv:=A5L ‹_›;rw[B0D ‹_›];first|done|(symm;exact iM A2 A2))
    | (rw[VJ ‹_›,A9 ‹_›];done)
    | (rw[B2Y ‹_› ‹_› ‹_›];first|rfl|(symm;exact iM A2 A2))
    | (rw[A8P ‹_› ‹_› ‹_› ‹_› ‹_›,A81 ‹_›];done)
    | (rw[A8P ‹_› ‹_› ‹_› ‹_› ‹_›,ZI ‹_›,B1w ‹_› ‹_›];done)
    | (rw[A8P ‹_› ‹_› ‹_› ‹_› ‹_›,ZI ‹_›,B1v ‹_›];done)
    | exact A8O ‹_› ‹_› ‹_› (B2X ‹_›)
    | exact A8O ‹_› ‹_› ‹_› (B2W ‹_›)
    | exact A8O ‹_› ‹_› ‹_› (fun k=>(by assumption:¬List.take ((2:Int).toNat-(0:Int).toNat) (List.drop (0:Int).toNat s)=[85,43]) k.1)
  .cases f
 .cases f
def dL(s:B2):Xt:=(1,kE (stp [83,45] 1 (stp [77,45] 2 (stp [67,45] 4 (s,0)))).1,(stp [83,45] 1 (stp [77,45] 2 (stp [67,45] 4 (s,0)))).2,0,0,0,0,[])
def kpO(s:B2):Xt:=if kyP (dL s)/\dJ (dL s)=s then dL s else X0
def kpE(s:B2):Int:=if kyP (dL s)/\dJ (dL s)=s then 0 else 6
def A9N{s:B2}{X:Xt}(e:dL s=X)(h1:kyP X)(c:¬dJ X≠s):kpO s=X/\kpE s=0:=by
 unfold kpO kpE;rw[e,A9 ⟨h1,D7.1 c⟩,A9 ⟨h1,D7.1 c⟩];exact⟨rfl,rfl⟩
def A9P{s:B2}{X:Xt}(c:dL s=X)(h1:¬kyP X):kpO s=X0/\kpE s=6:=by
 unfold kpO kpE;rw[c,A7 (fun k=>h1 k.1),A7 (fun k=>h1 k.1)];exact⟨rfl,rfl⟩
def A9O{s:B2}{X:Xt}(e:dL s=X)(c:dJ X≠s):kpO s=X0/\kpE s=6:=by
 unfold kpO kpE;rw[e,A7 (fun k=>c k.2),A7 (fun k=>c k.2)];exact⟨rfl,rfl⟩
def A69{s:B2}(v:Int)(h:¬2<=(s.length:Int)):stp p v (s,m)=(s,m):=A7 fun k=>h (by have:2<s.length:=k.1;omega)
def A68{s:B2}(v:Int)(h:¬List.take ((2:Int).toNat-(0:Int).toNat) (List.drop (0:Int).toNat s)=p):stp p v (s,m)=(s,m):=A7 fun k=>h k.2
def A67{s:B2}(v:Int)(h:List.drop (2:Int).toNat s=[]):stp p v (s,m)=(s,m):=A7 fun k=>by have:=F3 List.length h;rw[E9]at this;have h3:2<s.length:=k.1;simp at this;omega
def A66{s:B2}(v:Int)(h:¬¬List.take ((2:Int).toNat-(0:Int).toNat) (List.drop (0:Int).toNat s)=p)(c:¬List.drop (2:Int).toNat s=[]):stp p v (s,m)=(List.drop (2:Int).toNat s,m+v):=A9 ⟨by show 2<s.length;exact Nat.lt_of_not_le fun k=>c (R8 k),D7.1 h⟩
noncomputable def B0s:R3:=⟨_,fun c=>(.cons (B0F c) (.cons (A1H c) (.cons (A5P c) .nil)))⟩
def rA:List U->Option (Nat×List U)
 | [.str s]=>if(s.length:Int)<=140737488351232 then some (0,[.int .i64 ((kpO s).1),.int .i64 ((kpO s).2.1),.int .i64 ((kpO s).2.2.1),.int .i64 ((kpO s).2.2.2.1),.int .i64 ((kpO s).2.2.2.2.1),.int .i64 ((kpO s).2.2.2.2.2.1),.int .i64 ((kpO s).2.2.2.2.2.2.1),.str ((kpO s).2.2.2.2.2.2.2),.int .i64 (kpE s)])else none
 | _=>none
def RB(s:B2)(c:(s.length:Int)<=140737488351232):rA [.str s]=some (0,[.int .i64 ((kpO s).1),.int .i64 ((kpO s).2.1),.int .i64 ((kpO s).2.2.1),.int .i64 ((kpO s).2.2.2.1),.int .i64 ((kpO s).2.2.2.2.1),.int .i64 ((kpO s).2.2.2.2.2.1),.int .i64 ((kpO s).2.2.2.2.2.2.1),.str ((kpO s).2.2.2.2.2.2.2),.int .i64 (kpE s)]):=A9 c
def Q4:Tr:=.ret [jI 0,jI 0,jI 0,jI 0,jI 0,jI 0,jI 0,.string ⟨⟨[]⟩⟩,jI 6]
def cC(a0:Int)(c:Nat):Tr:=.ret [jI 1,h3 c,jI a0,jI 0,jI 0,jI 0,jI 0,.string ⟨⟨[]⟩⟩,jI 0]
def cD(a0:Int)(c:Nat)(f e:Tr):Tr:=.fn yC [jI 1,h3 c,jI a0,jI 0,jI 0,jI 0,jI 0,.string ⟨⟨[]⟩⟩] 1<|aN [h (c+3) 9,h 0 9]<|.br (c+4) f e
def cE(a0:Int)(c:Nat)(a2:Nat)(f e:Tr):Tr:=.fn LS [h c 9] 1<|.fn rR [jI 1,h3 a2,jI a0,jI 0,jI 0,jI 0,jI 0,.string ⟨⟨[]⟩⟩] 1<|aX [h (a2+1) 8]<|.br (a2+2) f e
def NX(n:Nat):Tr:=cE 0 0 n Q4 (cD 0 n Q4 (cC 0 n))
def fR(a0:Int)(c:Nat)(a2:Nat)(f e:Tr):Tr:=.lt 9 (.sub1) [h c 9,jI a0]<|aN [h a2 9,.string ⟨⟨[]⟩⟩]<|.br (a2+1) f e
def vZ(a0:Nat)(c:Nat)(f e:Tr):Tr:=.lt 9 (.sub) [h a0 9,jI 0,jI 2]<|aE [h c 9,.string ⟨⟨[83,45]⟩⟩]<|aX [h (c+1) 8]<|.br (c+2) f e
def NW(n:Nat):Tr:=y0 2 0 n (vZ 0 (n+2) (NX (n+5)) (fR 2 0 (n+5) (cE 1 (n+5) (n+7) Q4 (cD 1 (n+7) Q4 (cC 1 (n+7)))) (NX (n+7)))) (NX (n+2))
def NV(n:Nat):Tr:=y0 2 0 n (.lt 9 (.sub) [h 0 9,jI 0,jI 2]<|aE [h (n+2) 9,.string ⟨⟨[77,45]⟩⟩]<|M5 (n+3) (n+4) (NW (n+5)) (fR 2 0 (n+5) (y0 2 (n+5) (n+7) (vZ (n+5) (n+9) (cE 2 (n+5) (n+12) Q4 (cD 2 (n+12) Q4 (cC 2 (n+12)))) (fR 2 (n+5) (n+12) (cE 3 (n+12) (n+14) Q4 (cD 3 (n+14) Q4 (cC 3 (n+14)))) (cE 2 (n+5) (n+14) Q4 (cD 2 (n+14) Q4 (cC 2 (n+14)))))) (cE 2 (n+5) (n+9) Q4 (cD 2 (n+9) Q4 (cC 2 (n+9))))) (NW (n+7)))) (NW (n+2))
def NU(n:Nat):Tr:=cE 4 6 n Q4 (cD 4 n Q4 (cC 4 n))
def NT(n:Nat):Tr:=y0 2 6 n (vZ 6 (n+2) (NU (n+5)) (fR 2 6 (n+5) (cE 5 (n+5) (n+7) Q4 (cD 5 (n+7) Q4 (cC 5 (n+7)))) (NU (n+7)))) (NU (n+2))
def NS(n:Nat):Tr:=cE 6 13 n Q4 (cD 6 n Q4 (cC 6 n))
def A5K:Tr:=y0 2 0 1 (.lt 9 (.sub) [h 0 9,jI 0,jI 2]<|aE [h 3 9,.string ⟨⟨[67,45]⟩⟩]<|M5 4 5 (NV 6) (fR 2 0 6 (y0 2 6 8 (.lt 9 (.sub) [h 6 9,jI 0,jI 2]<|aE [h 10 9,.string ⟨⟨[77,45]⟩⟩]<|M5 11 12 (NT 13) (fR 2 6 13 (y0 2 13 15 (vZ 13 17 (NS 20) (fR 2 13 20 (cE 7 20 22 Q4 (cD 7 22 Q4 (cC 7 22))) (NS 22))) (NS 17)) (NT 15))) (NT 10)) (NV 8))) (NV 3)
def RC{G}(l:L1 G):M3 prog G 20 [.s 9] rA [.a [3,3,3,3,3,3,3,9],.s 3]:=by
 refine G3 (d:=60) A5K (cxg (B0s.2 l) .nil) l ⟨f20,_,func20,rfl⟩ C6 C6 ?_;intro us outs f;unfold rA at f;split at f
 .skip;rename_i s;split at f
  .rename_i n;cases f;unfold A5K;refine w0 (.cons 0 _ (.nil)) ?_;repeat (first|refine w4 (fun g=>?_) fun g=>?_|refine w4B (fun g=>?_) fun g=>?_|(refine w7 [.int .i64 _,.int .i64 _,.int .i64 _,.int .i64 _,.int .i64 _,.int .i64 _,.int .i64 _,.str _,.int .i64 _] ?_;rotate_left)|refine j9 ?_|refine oK ?_|refine WJ ?_|refine w31 LS (e:=A36 _ (by first|omega|(simp only[E9];omega))) (k':=?_)|refine w31 rR (e:=GB _ _ _ _ _ _ _ _ ⟨E7,E7,A3O (m:=140737488351232) rfl⟩) (k':=?_)|refine w31 yC (e:=RJ _ _ _ _ _ _ _ _ (A0W (x:=(1,kE _,_,0,0,0,0,[])) (D7.1 ‹_›))) (k':=?_)|refine nW ?_|refine kW ?_|refine w1 (.sub) (e:=nP _ _ _ _ _ A2 A2 (by first|omega|(simp only[E9]at *;omega))) (k':=?_)|refine MU ?_|refine w1 (.sub1) (e:=nO _ _ _ A2 (by first|omega|(simp only[E9];omega))) (k':=?_))
   all_goals
    first
    | (exfalso;omega)
    | contradiction
    | (have c:dL s=dL s:=rfl
       conv at c=>rhs;unfold dL
       first|rw[A69 (p:=[67,45]) 4 ‹_›]at c|rw[A68 (p:=[67,45]) 4 ‹_›]at c|rw[A67 (p:=[67,45]) 4 (by first|assumption|exact D7.1 ‹_›)]at c|rw[A66 (p:=[67,45]) 4 ‹_› (by first|assumption|exact D7.1 ‹_›)]at c
       first|rw[A69 (p:=[77,45]) 2 ‹_›]at c|rw[A68 (p:=[77,45]) 2 ‹_›]at c|rw[A67 (p:=[77,45]) 2 (by first|assumption|exact D7.1 ‹_›)]at c|rw[A66 (p:=[77,45]) 2 ‹_› (by first|assumption|exact D7.1 ‹_›)]at c
       first|rw[A69 (p:=[83,45]) 1 ‹_›]at c|rw[A68 (p:=[83,45]) 1 ‹_›]at c|rw[A67 (p:=[83,45]) 1 (by first|assumption|exact D7.1 ‹_›)]at c|rw[A66 (p:=[83,45]) 1 ‹_› (by first|assumption|exact D7.1 ‹_›)]at c
       first
       | exact l9 (A9P c ‹_›).1 (A9P c ‹_›).2
       | exact l9 (A9O c ‹_›).1 (A9O c ‹_›).2
       | exact l9 (A9N c (D7.1 ‹_›) ‹_›).1 (A9N c (D7.1 ‹_›) ‹_›).2
)
  .cases f
 .cases f
def spl(c:UInt8):Nat->List B2->B2->Nat->List B2×B2×Nat
 | 0,a,s,i=>(a,s,i)
 | k+1,a,s,i=>if Lib.indexByte s c<0 then(a,s,i)else spl c k (a.set i (s.take (Lib.indexByte s c).toNat)) (s.drop ((Lib.indexByte s c).toNat+1)) (i+1)
def parts(s:B2)(c:UInt8):List B2 :=
 let n:=min (s.count c+1) (s.length+1)
 let r:=spl c (n-1) (List.replicate n []) s 0
 (r.1.set r.2.2 r.2.1).take (r.2.2+1)
def OT:∀ {s:B2} {c:UInt8},0<=Lib.indexByte s c->s=s.take (Lib.indexByte s c).toNat++c::s.drop ((Lib.indexByte s c).toNat+1)/\(Lib.indexByte s c).toNat<s.length/\s.count c=(s.drop ((Lib.indexByte s c).toNat+1)).count c+1
 | [],c,h=>by simp[Lib.indexByte]at h
 | b::l,c,h=>by
   have g:=Lib.indexByte_ge l c;unfold Lib.indexByte at h ⊢;split at h
   .rename_i f;rw[A9 f]
    have:=eq_of_beq f;subst this;simp
   .rename_i f;split at h
    .omega
    .rename_i h1;have h1:¬Lib.indexByte l c = -1:=by simpa using h1
     have n:0<=Lib.indexByte l c:=A2;obtain⟨i1,i2,i3⟩:=OT n;rw[A7 f,A7 (by simpa using h1)];have e:(Lib.indexByte l c+1).toNat=(Lib.indexByte l c).toNat+1:=A2;rw[e];refine⟨?_,?_,?_⟩
     .rw[List.take_succ_cons,List.drop_succ_cons,S2,<- i1]
     .rw[E4];omega
     .rw[List.drop_succ_cons,List.count_cons_of_ne (by simpa using f),i3]
def A1I:∀ {s:B2} {c:UInt8},Lib.indexByte s c<0->s.count c=0
 | [],_,_=>rfl
 | b::l,c,h=>by
   have e:=Lib.indexByte_ge l c;unfold Lib.indexByte at h;split at h
   .omega
   .rename_i f;split at h
    .rename_i h1;have h1:Lib.indexByte l c = -1:=by simpa using h1
     rw[List.count_cons_of_ne (by simpa using f),A1I A2]
    .omega
def m7(c:UInt8)(l:List B2):B2:=l.flatMap fun p=>p++[c]
def QD{c:UInt8}:∀ (k:Nat) (a:List B2) (s:B2) (i:Nat),s.count c=k->i+k<a.length->∃ P t,spl c k a s i=(a.take i++P++a.drop (i+k),t,i+k)/\P.length=k/\s=m7 c P++t
 | 0,a,s,i,_,h2=>⟨[],s,by simp[spl],rfl,by simp[m7]⟩
 | k+1,a,s,i,h1,h2=>by
   have hi:0<=Lib.indexByte s c:=by
    by_cases h:Lib.indexByte s c<0
    .have:=A1I h;omega
    .omega
   obtain⟨g,q,w⟩:=OT hi;unfold spl;rw[A7 A2];obtain⟨P,t,l,o,e⟩:=QD (c:=c) k (a.set i (s.take (Lib.indexByte s c).toNat)) (s.drop ((Lib.indexByte s c).toNat+1)) (i+1) A2 (by rw[R1];omega);refine⟨s.take (Lib.indexByte s c).toNat::P,t,?_,by rw[E4,o],?_⟩
   .rw[l];refine Prod.ext ?_ (Prod.ext rfl (by show i+1+k=i+(k+1);omega));show(a.set i _).take (i+1)++P++(a.set i _).drop (i+1+k)=a.take i++(_::P)++a.drop (i+(k+1));have n:i<a.length:=A2;rw[List.drop_set_of_lt A2,show i+1+k=i+(k+1) by omega,List.take_add_one,List.take_set_of_le (A6 _),R7 n];simp
   .have f:s=s.take (Lib.indexByte s c).toNat++c::(m7 c P++t):=by rw[<- e];exact g
    have:m7 c (s.take (Lib.indexByte s c).toNat::P)++t=s.take (Lib.indexByte s c).toNat++c::(m7 c P++t):=by simp[m7]
    rw[this];exact f
def sX(s:B2)(c:UInt8):∃ P t,parts s c=P++[t]/\P.length=s.count c/\s=m7 c P++t:=by
 have o:s.count c<=s.length:=dB;obtain⟨P,t,l,e,f⟩:=QD (c:=c) (s.count c) (List.replicate (s.count c+1) []) s 0 rfl (by simp);refine⟨P,t,?_,e,f⟩;have hm:min (s.count c+1) (s.length+1)=s.count c+1:=A2;unfold parts;simp only[hm,Nat.add_sub_cancel];rw[l];have n:(List.replicate (s.count c+1) ([]:B2)).drop (0+s.count c)=[[]]:=by
  rw[List.drop_replicate];simp
 rw[n];simp only[List.take_zero,G5,F4];rw[<- e,List.set_append_right _ _ (A6 _)];have g:(P++[[]].set (P.length-P.length) t:List B2)=P++[t]:=by simp
 rw[g];exact List.take_of_length_le (by simp)
def eqC(c b:UInt8):Bool:=decide (b=c)
def A92{c b:UInt8}(h:b=c):eqC c b=true:=J6 h
def A93{c b:UInt8}(h:¬b=c):eqC c b=false:=E0 h
def fx(c:UInt8)(s:B2):Option Int:=J2 (eqC c) s 0
def A1N:∀ (s:B2) (c:UInt8) (i:Int),J2 (eqC c) s i=if Lib.indexByte s c = -1 then none else some (i+Lib.indexByte s c)
 | [],_,_=>rfl
 | b::l,c,i=>by
   have g:=Lib.indexByte_ge l c;show(if eqC c b=true then some i else J2 (eqC c) l (i+1))=_;by_cases e:b=c
   .have f:Lib.indexByte (b::l) c=0:=by rw[Lib.indexByte,A9 (beq_iff_eq.2 e)]
    rw[A9 (A92 e),f,A7 E7];simp
   .rw[A7 (by rw[A93 e];decide),A1N l c (i+1)];by_cases k:Lib.indexByte l c = -1
    .have f:Lib.indexByte (b::l) c = -1:=by rw[Lib.indexByte,A7 (by simpa using e),k];rfl
     rw[A9 k,f,A9 rfl]
    .have f:Lib.indexByte (b::l) c=Lib.indexByte l c+1:=by rw[Lib.indexByte,A7 (by simpa using e),A7 (by simpa using k)]
     rw[A7 k,f,A7 A2];congr 1;omega
def B2R{s:B2}{c:UInt8}(h:Lib.indexByte s c<0):fx c s=none:=by
 have e:=Lib.indexByte_ge s c;unfold fx;rw[A1N,A9 A2]
def B2Q{s:B2}{c:UInt8}(h:¬Lib.indexByte s c<0):fx c s=some (Lib.indexByte s c):=by
 have e:=Lib.indexByte_ge s c;unfold fx;rw[A1N,A7 A2,Int.zero_add]
def sp(c:UInt8):B2->List B2
 | []=>[[]]
 | b::l=>if b=c then[]::sp c l else match sp c l with
   | x::r=>(b::x)::r
   | []=>[[b]]
def A4Y{c:UInt8}:∀ {u:B2},(∀ x ∈ u,x≠c)->sp c u=[u]
 | [],_=>rfl
 | b::u,h=>by
   unfold sp;rw[A7 (h b (B4 ..)),A4Y fun x hx=>h x (C4 _ hx)]
def XB{c:UInt8}:∀ {u v:B2},(∀ x ∈ u,x≠c)->sp c (u++c::v)=u::sp c v
 | [],v,_=>by
   show(if c=c then[]::sp c v else _)=_;rw[A9 rfl]
 | b::u,v,h=>by
   show sp c (b::(u++c::v))=_;unfold sp;rw[A7 (h b (B4 ..)),XB fun x hx=>h x (C4 _ hx)];cases v<;>rfl
def IK{c:UInt8}:∀ {P:List B2} {t:B2},(∀ p ∈ P,∀ x ∈ p,x≠c)->(∀ x ∈ t,x≠c)->sp c (m7 c P++t)=P++[t]
 | [],t,_,h=>A4Y h
 | p::P,t,h1,h=>by
   have e:m7 c (p::P)++t=p++c::(m7 c P++t):=by simp[m7]
   rw[e,XB (h1 p (B4 ..)),IK (fun q f=>h1 q (C4 _ f)) h];rfl
def VM{c:UInt8}:∀ {P:List B2} {t:B2},(m7 c P++t).count c=P.length->(∀ p ∈ P,∀ x ∈ p,x≠c)/\(∀ x ∈ t,x≠c)
 | P,t,h=>by
   have k:∀ (P:List B2),(m7 c P).count c=P.length+(P.map (List.count c)).sum:=by
    intro P;induction P with
    | nil=>rfl
    | cons p P f =>
      have e:m7 c (p::P)=p++(c::m7 c P):=by simp[m7]
      rw[e,List.count_append,List.count_cons_self,f,E4,C3,List.sum_cons];omega
   rw[List.count_append,k]at h;have g:(P.map (List.count c)).sum=0:=A2;have n:t.count c=0:=A2;refine⟨fun p hp x hx e=>?_,fun x hx e=>?_⟩
   .have:List.count c p<=(P.map (List.count c)).sum:=by
     have:∀ {l:List B2},p ∈ l->List.count c p<=(l.map (List.count c)).sum:=by
      intro l;induction l with
      | nil=>intro h;cases h
      | cons q l f =>
        intro h;rw[C3,List.sum_cons];rcases B5.1 h with rfl|h
        .omega
        .have:=f h;omega
     exact this hp
    have:0<List.count c p:=List.count_pos_iff.2 (e▸hx);omega
   .have:0<List.count c t:=List.count_pos_iff.2 (e▸hx);omega
def xZ(s:B2)(c:UInt8):parts s c=sp c s:=by
 obtain⟨P,t,h1,f,h3⟩:=sX s c;have l:(m7 c P++t).count c=P.length:=by rw[<- h3];exact f.symm
 obtain⟨g,e⟩:=VM l;rw[h1,h3,IK g e]
def XA(s:B2)(c:UInt8):(sp c s).length=s.count c+1:=by
 rw[<- xZ];obtain⟨P,t,h1,e,h3⟩:=sX s c;rw[h1,E1,e];rfl
def WZ{c:UInt8}{s:B2}(h:p ∈ sp c s):p.length<=s.length:=by
 rw[<- xZ]at h;obtain⟨P,t,h1,g,h3⟩:=sX s c;rw[h1]at h;rw[h3,E1];have k:∀ {P:List B2},p ∈ P->p.length<=(m7 c P).length:=by
  intro P;induction P with
  | nil=>intro h;cases h
  | cons q P f =>
    intro h;have e:m7 c (q::P)=q++(c::m7 c P):=by simp[m7]
    rw[e,E1,E4];rcases B5.1 h with rfl|h
    .omega
    .have:=f h;omega
 rcases B7.1 h with h|h
 .have:=k h;omega
 .obtain rfl:=L9.1 h;omega
def GK{α:Type}{p:α->Bool}:∀ {l:List α} {i:Int},(∀ a ∈ l,p a=false)->J2 p l i=none
 | [],_,_=>rfl
 | a::l,i,h=>by
   unfold J2;rw[h a (B4 ..)];exact GK fun b c=>h b (C4 _ c)
def bsF(b:B2):Prop:=b≠[]/\(b.length<=2∨b.getD 1 0≠45)
def A7t(c:Int):4<=(bV c).length:=by
 unfold bV
 (repeat' split)<;>exact A1 rfl
def B2i{c:Int}(h:cR c):bsF (bJ c):=by
 unfold cR at h;by_cases h1:1114113<=c
 .rw[A8T h1];have k:∀ n:Nat,n<26->(nmL.getD n [])≠[]/\((nmL.getD n []).length<=2∨(nmL.getD n []).getD 1 0≠45):=E7;exact k _ A2
 .by_cases e:c=32
  .rw[A8U e];exact⟨E7,.inr E7⟩
  .by_cases h3:c<=126
   .rw[A8W h1 e h3];exact⟨by simp,.inl (by simp)⟩
   .rw[PH h1 e h3];exact⟨by simp,.inr (by show(43:UInt8)≠45;decide)⟩
def vQ(a v:_)(m:Int)(h:r≠[]):stp [a,45] v ([a,45]++r,m)=(r,m+v):=by
 unfold stp;rw[A9]
 .rfl
 .refine⟨?_,rfl⟩;show 2<([a,45]++r).length;rw[E1]
  have:=dQ.2 h;show 2<2+_;omega
def WU{a b:UInt8}(v m:Int)(h:b≠a):stp [a,45] v ([b,45]++r,m)=([b,45]++r,m):=by
 unfold stp;rw[A7];intro k
 have:=k.2;exact h (by injection this)
def NB{a:UInt8}(v m:Int)(h:bsF r):stp [a,45] v (r,m)=(r,m):=by
 unfold stp;rw[A7];intro ⟨e,c⟩;have e:2<r.length:=e;rcases h.2 with h|h
 .omega
 .match r,e,c,h with
  | x::y::l,_,c,h =>
    have c:[x,y]=[a,45]:=c;injection c with _ c
    injection c with c
    exact h c
def mdP(n:Int)(a:UInt8):B2:=if n=0 then[]else[a,45]
def OE(a:UInt8):mdP 0 a=[]:=A9 rfl
def A3I(a:UInt8):mdP 1 a=[a,45]:=A7 E7
def A3H(a:UInt8):mdP 2 a=[a,45]:=A7 E7
def A3G(a:UInt8):mdP 4 a=[a,45]:=A7 E7
def B1e{x z:Int}(hx:x=0∨x=4)(e:y=0∨y=2)(f:z=0∨z=1)(h:bsF b):stp [83,45] 1 (stp [77,45] 2 (stp [67,45] 4 (mdP x 67++(mdP y 77++(mdP z 83++b)),0)))=(b,x+y+z):=by
 have c:=h.1;rcases hx with rfl|rfl<;>rcases e with rfl|rfl<;>rcases f with rfl|rfl
 .simp only[OE,G5];rw[NB _ _ h,NB _ _ h,NB _ _ h];first|done|rfl
 .simp only[OE,A3I,G5];rw[WU _ _ E7,WU _ _ E7,vQ _ _ _ c];first|done|rfl
 .simp only[OE,A3H,G5];rw[WU _ _ E7,vQ _ _ _ c,NB _ _ h];first|done|rfl
 .simp only[OE,A3H,A3I,G5];rw[WU _ _ E7,vQ _ _ _ (by simp),vQ _ _ _ c];first|done|rfl
 .simp only[A3G,OE,G5];rw[vQ _ _ _ c,NB _ _ h,NB _ _ h];first|done|rfl
 .simp only[A3G,OE,A3I,G5];rw[vQ _ _ _ (by simp),WU _ _ E7,vQ _ _ _ c];first|done|rfl
 .simp only[A3G,A3H,OE,G5];rw[vQ _ _ _ (by simp),vQ _ _ _ c,NB _ _ h];first|done|rfl
 .simp only[A3G,A3H,A3I];rw[vQ _ _ _ (by simp),vQ _ _ _ (by simp),vQ _ _ _ c];first|done|rfl
def A9m(h0:0<=d)(h1:d<16):hD (hU d)=d/\hv ((hU d).toNat:Int)=d:=by
 have k:∀ n:Nat,n<16->hD (hU n)=n/\hv ((hU n).toNat:Int)=n:=E7
 have:=k d.toNat A2
 rwa[show((d.toNat:Nat):Int)=d by omega]at this
def B2O{n:Int}{l:B2}(h0:0<=d)(h1:d<16):hR (hU d::l) n=hR l (16*n+d):=by
 show(if hD (hU d)<0 then none else hR l (16*n+hD (hU d)))=_;rw[(A9m h0 h1).1,A7 A2]
def B1u{n:Int}{l:List Int}(h0:0<=d)(h1:d<16):pu (((hU d).toNat:Int)::l) n=pu l (n*16+d):=by
 show(if hv _<0 then none else pu l (n*16+hv _))=_;rw[(A9m h0 h1).2,A7 A2]
def A9k{c:Int}(h0:0<=c)(h1:c<16777216):hR (bV c) 0=some c:=by
 unfold bV
 (repeat' split)<;>(repeat rw[B2O A2 A2])<;>exact F3 some A2
def A9l{c:Int}(h0:0<=c)(h1:c<16777216):pu (bI (bV c)) 0=some c:=by
 unfold bV
 (repeat' split)<;>(unfold bI;simp only[C3,F9])<;>(repeat rw[B1u A2 A2])<;>exact F3 some A2
def B2A(h:b.length=1):J2 (niF b) nmL 0=none:=GK fun a c=>A0D fun e=>by
 have k:∀ a ∈ nmL,a.length≠1:=E7;exact k a c (by rw[e,h])
def A9B :J2 (niF ([85,43]++b)) nmL 0=none:=GK fun a c=>A0D fun e=>by
 have k:∀ a ∈ nmL,a.getD 1 0≠43:=E7;exact k a c (by rw[e];rfl)
def B1_:∀ n:Nat,n<26->J2 (niF (nmL.getD n [])) nmL 0=some (n:Int):=by
 have k:((List.range 26).all fun n=>decide (J2 (niF (nmL.getD n [])) nmL 0=some (n:Int)))=true:=C6;exact fun n c=>G7 (D4.1 k n (W1.2 c))
def A8Q{c:Int}(h:cR c):DL (bJ c)=c/\kE (bJ c)=c:=by
 unfold cR at h;by_cases h1:1114113<=c
 .rw[A8T h1]
  have:=B1_ (c-1114113).toNat A2;rw[B2V this,B0D this];omega
 .by_cases g:c=32
  .rw[A8U g,g];decide
  .by_cases h3:c<=126
   .rw[A8W h1 g h3];have k:=B2A (b:=[UInt8.ofNat c.toNat]) rfl;have e:(((([UInt8.ofNat c.toNat]:B2).getD 0 0)).toNat:Int)=c:=by
     show((UInt8.ofNat c.toNat).toNat:Int)=c;rw[UInt8.toNat_ofNat',d9 A2];omega
    have f:¬[UInt8.ofNat c.toNat]=([83,112,97,99,101]:B2):=fun e=>by have e:=F3 List.length e;simp at e
    have l:([UInt8.ofNat c.toNat]:B2).length=1:=rfl;refine⟨?_,?_⟩
    .rw[B0C k,A7 f,A9 l];exact e
    .rw[VJ k,A7 f,A9 l];exact e
   .rw[PH h1 g h3];have n:=A7t c;have o:=SL c;have l2:(([85,43]++bV c:B2)).length=2+(bV c).length:=by rw[E1];rfl
    have f:¬([85,43]++bV c:B2)=[83,112,97,99,101]:=fun e=>by cases e
    refine⟨?_,?_⟩
    .rw[B0C A9B,A7 f,A7 A2,A7 fun k=>k.elim A2 fun k=>k.elim A2 fun k=>k rfl];show(hR (bV c) 0).getD (-1)=c;rw[A9k A2 A2];rfl
    .rw[VJ A9B,A7 f,A7 A2,A9 ⟨rfl,A2⟩];show puB (bV c)=c;rw[ZI (fun e=>by rw[e]at n;exact absurd n E7),A9l A2 A2];rfl
def RV(h:kyP x):x=(1,x.2.1,x.2.2.1,0,0,0,0,[])/\0<=x.2.2.1/\x.2.2.1<=7:=by
 obtain⟨k,c,m,w,b,r,cl,t⟩:=x;obtain⟨h1,e⟩:=h;have h1:k=1:=h1;have e:W3 k c m w b r cl t:=e;unfold W3 at e;rcases e with e|e|e|e
 .obtain⟨_,rfl,rfl,rfl,rfl,rfl,f⟩:=e;subst h1;refine⟨rfl,?_⟩;show 0<=m/\m<=7;unfold q9 at f;omega
 .omega
 .omega
 .omega
def A18(h:kyP x):kF (dJ x)=x/\dL (dJ x)=x:=by
 obtain⟨e,h0,o⟩:=RV h;have f:=A0W h;have g:=B2i f;have c:=A8Q f;have l:dJ x=mdP (x.2.2.1 / 4%2*4) 67++(mdP (x.2.2.1 / 2%2*2) 77++(mdP (x.2.2.1 / 1%2*1) 83++bJ x.2.1)):=rfl;have n:=B1e (b:=bJ x.2.1) (x:=x.2.2.1 / 4%2*4) (y:=x.2.2.1 / 2%2*2) (z:=x.2.2.1 / 1%2*1) A2 A2 A2 g;unfold kF dL;rw[l,n,c.1,c.2,show x.2.2.1 / 4%2*4+x.2.2.1 / 2%2*2+x.2.2.1 / 1%2*1=x.2.2.1 by omega];exact⟨e.symm,e.symm⟩
def yQ(s:B2):kpO s=yR s/\kpE s=BD s:=by
 by_cases h:kyP (kF s)/\dJ (kF s)=s
 .have e:dL s=kF s:=by
   have:=(A18 h.1).2
   rwa[h.2]at this
  unfold kpO kpE yR BD;rw[e,A9 h,A9 h];exact⟨rfl,rfl⟩
 .have c:¬(kyP (dL s)/\dJ (dL s)=s):=fun k=>h (by
   have:=(A18 k.1).1;rw[k.2]at this;rw[this];exact k)
  unfold kpO kpE yR BD;rw[A7 h,A7 c,A7 h,A7 c];exact⟨rfl,rfl⟩
def nmB(l:B2):Prop:=∀ b ∈ l,33<=b.toNat/\b.toNat<=126
def Q1(s:B2):B2×B2×Bool:=match fx 32 s with
 | some j=>(s.take j.toNat,s.drop (j+1).toNat,true)
 | none=>(s,[],false)
def A8M{s:B2}(h:fx 32 s=some j):Q1 s=(s.take j.toNat,s.drop (j+1).toNat,true):=by unfold Q1;rw[h]
def A8N{s:B2}(h:fx 32 s=none):Q1 s=(s,[],false):=by unfold Q1;rw[h]
def bnR(s:B2):Bool:=decide (s.take 3=[45,114,32]/\3<s.length)
def bnA(s:B2):B2:=if bnR s=true then s.drop 3 else s
def mkG(x:Xt)(c:B2)(r:Bool):Gt:=(x.1,x.2.1,x.2.2.1,x.2.2.2.1,x.2.2.2.2.1,x.2.2.2.2.2.1,x.2.2.2.2.2.2.1,x.2.2.2.2.2.2.2,c,r)
def bnG(s:B2):Gt:=mkG (yR (Q1 (bnA s)).1) (Q1 (bnA s)).2.1 (bnR s)
def bnP(s:B2):Prop:=(Q1 (bnA s)).2.2=true/\BD (Q1 (bnA s)).1=0/\(Q1 (bnA s)).2.1≠[]
instance(s:B2):Decidable (bnP s):=by unfold bnP;infer_instance
def lnP(s:B2):Prop:=s.take 5=[98,105,110,100,32]/\bnP (s.drop 5)
instance(s:B2):Decidable (lnP s):=by unfold lnP;infer_instance
def lV(s:B2):Bool:=!decide (lnP s)
def lnG(s:B2):Gt:=bnG (s.drop 5)
def A7k{s:B2}(h:lnP s):lV s=false:=by unfold lV;rw[J6 h];rfl
def OJ{s:B2}(h:¬lnP s):lV s=true:=by unfold lV;rw[E0 h];rfl
def rok:List B2->Bool
 | []=>false
 | [l]=>decide (l=[])
 | l::m::r=>!lV l && rok (m::r)
def rgs(l:List B2):List Gt:=l.dropLast.map lnG
def hdP(s:B2):Prop:=s.take 7=[112,114,101,102,105,120,32]/\BD (s.drop 7)=0
instance(s:B2):Decidable (hdP s):=by unfold hdP;infer_instance
def psP(l:List B2):Prop:=hdP (l.headD [])/\rok l.tail=true
instance(l:List B2):Decidable (psP l):=by unfold psP;infer_instance
def psX(s:B2):Xt:=yR (((sp 10 s).headD []).drop 7)
def psL(s:B2):Option (List Gt):=w9 none (some (rgs (sp 10 s).tail))
def prE(s:B2):Int:=if 16384<s.length then 3 else if ¬psP (sp 10 s)then 6 else tT (psX s) (el (psL s))
def prX(s:B2):Xt:=if prE s=0 then psX s else X0
def prL(s:B2):Option (List Gt):=if prE s=0 then psL s else none
def B1y{s:B2}(h:16384<s.length):prE s=3:=A9 h
def UR{s:B2}(h:¬16384<s.length)(c:¬psP (sp 10 s)):prE s=6:=by unfold prE;rw[A7 h,A9 c]
def B1x{s:B2}(h:¬16384<s.length)(c:psP (sp 10 s)):prE s=tT (psX s) (el (psL s)):=by unfold prE;rw[A7 h,A7 fun k=>k c]
def A83{s:B2}(h:prE s≠0):prX s=X0/\prL s=none:=⟨A7 h,A7 h⟩
def A82{s:B2}(h:prE s=0):prX s=psX s/\prL s=psL s:=⟨A9 h,A9 h⟩
def A8p{l:B2}{r:List B2}(h:r≠[]):rok (l::r)=(!lV l && rok r):=by
 cases r with
 | nil=>exact absurd rfl h
 | cons m r=>rfl
def QM:∀ {l:List B2},rok l=true↔l.getLast? = some []/\l.dropLast.any lV=false
 | []=>by simp[rok]
 | [l]=>by simp[rok]
 | l::m::r=>by
   rw[A8p (by simp),G8,QM (l:=m::r),List.dropLast_cons₂,P8,List.getLast?_cons_cons];cases lV l<;>simp
def A59(u:B2):iB (bI u)=u:=by
 unfold iB bI;rw[jT];induction u with
 | nil=>rfl
 | cons a u c=>rw[C3,c];simp
def LT:List U->Option (Nat×List U)
 | [.str s,.str c]=>if c.length=1 then some (0,[.int .i64 ((Lib.countByte s (c.getD 0 0):Int))])else none
 | _=>none
def A37(s:B2)(c:B2)(e:c.length=1):LT [.str s,.str c]=some (0,[.int .i64 ((Lib.countByte s (c.getD 0 0):Int))]):=A9 e
def A6Y{G}(l:L1 G):M3 prog G 29 [.s 9,.s 9] LT [.s 3]:=by
 intro us outs w vs R g f q hR;unfold LT at f;split at f
 .skip;rename_i s c;split at f
  .rename_i o;cases f;have hv:=U9 (vs2:=[.string ⟨⟨s⟩⟩,.string ⟨⟨c⟩⟩]) g rfl;subst hv;refine gF (vr:=[.int .i64 (Lib.countByte s (c.getD 0 0))]) func29 rfl C6 rfl ?_;obtain⟨x,rfl⟩:∃ x,c=[x]:=by
    match c,o with
    | [x],_=>exact⟨x,rfl⟩
    | [],h=>cases h
    | _::_::_,h=>simp at h
   exact(Tryz.strings_Count_one ⟨⟨s⟩⟩ x w).mono fun e w' ⟨h1,n⟩=>⟨h1,by subst n;exact RowKit.Below.refl _ _⟩
  .cases f
 .cases f
def KP:List U->Option (Nat×List U)
 | [.str s,.str c]=>if c.length=1 then some (0,[.int .i64 (Lib.indexByte s (c.getD 0 0))])else none
 | _=>none
def A3Y(s:B2)(c:B2)(e:c.length=1):KP [.str s,.str c]=some (0,[.int .i64 (Lib.indexByte s (c.getD 0 0))]):=A9 e
def A9i{G}(l:L1 G):M3 prog G 65 [.s 9,.s 9] KP [.s 3]:=by
 intro us outs w vs R g f q hR;unfold KP at f;split at f
 .skip;rename_i s c;split at f
  .rename_i o;cases f;have hv:=U9 (vs2:=[.string ⟨⟨s⟩⟩,.string ⟨⟨c⟩⟩]) g rfl;subst hv;refine gF (vr:=[.int .i64 (Lib.indexByte s (c.getD 0 0))]) func65 rfl C6 rfl ?_;obtain⟨x,rfl⟩:∃ x,c=[x]:=by
    match c,o with
    | [x],_=>exact⟨x,rfl⟩
    | [],h=>cases h
    | _::_::_,h=>simp at h
   exact(Tryz.strings_Index_one ⟨⟨s⟩⟩ x w).mono fun e w' ⟨h1,n⟩=>⟨h1,by subst n;exact RowKit.Below.refl _ _⟩
  .cases f
 .cases f
def A7r(s:B2)(c:UInt8) : -1<=Lib.indexByte s c/\(Lib.indexByte s c<(s.length:Int)):=by
 have h:=Lib.indexByte_ge s c;by_cases h0:0<=Lib.indexByte s c
 .have:=(OT h0).2.1;omega
 .omega
def IJ{c:UInt8}{s:B2}{i:Nat}(h:Lib.indexByte s c<0):spl c k a s i=(a,s,i):=by
 cases k with
 | zero=>rfl
 | succ k=>rw[spl,A9 h]
def A2m{c:UInt8}{s:B2}{n:Int}(h0:0<=i)(h1:i<n)(hm:m=Lib.indexByte s c)(e:¬m<0):spl c (n-i).toNat a s i.toNat=spl c (n-(i+1)).toNat (a.set i.toNat ((s.drop (0:Int).toNat).take ((m+0).toNat-(0:Int).toNat))) (s.drop (m+1).toNat) (i+1).toNat:=by
 subst hm;rw[show(n-i).toNat=(n-(i+1)).toNat+1 by omega,spl,A7 e,show(Lib.indexByte s c+0).toNat=(Lib.indexByte s c).toNat by omega,show(Lib.indexByte s c+1).toNat=(Lib.indexByte s c).toNat+1 by omega,show(i+1).toNat=i.toNat+1 by omega];rfl
def SN{c:UInt8}{a:Option (List B2)}{s:B2}(h:spl c k (el a) s i.toNat=(el a,s,i.toNat))(hi:0<=i)(e:a=some (el a)):some (0,[U.str (spl c k (el a) s i.toNat).2.1,D9 rS (some (spl c k (el a) s i.toNat).1),U.int .i64 (spl c k (el a) s i.toNat).2.2])=some (0,[U.str s,D9 rS a,U.int .i64 i]):=by
 rw[h];show some (0,[U.str s,D9 rS (some (el a)),U.int .i64 (i.toNat:Int)])=_;rw[<- e,dS hi]
noncomputable def B09:R3:=⟨_,fun c=>(.cons (A6Y c) (.cons (A9i c) .nil))⟩
def uZ:List U->Option (Nat×List U)
 | [.str s,.str c,.int .i64 n,u_a,.int .i64 i]=>(L4 rS u_a).bind fun a=>if c.length=1/\0<=i/\i<=n/\n<((el a).length:Int)/\((el a).length:Int)<=1000000000/\s.length<=1000000000/\a=some (el a)then some (0,[.str (spl (c.getD 0 0) (n-i).toNat (el a) s i.toNat).2.1,D9 rS (some (spl (c.getD 0 0) (n-i).toNat (el a) s i.toNat).1),.int .i64 (spl (c.getD 0 0) (n-i).toNat (el a) s i.toNat).2.2])else none
 | _=>none
def rX(s:B2)(c:B2)(n:Int)(a:(Option (List B2)))(i:Int)(e:c.length=1/\0<=i/\i<=n/\n<((el a).length:Int)/\((el a).length:Int)<=1000000000/\s.length<=1000000000/\a=some (el a)):uZ [.str s,.str c,.int .i64 n,D9 rS a,.int .i64 i]=some (0,[.str (spl (c.getD 0 0) (n-i).toNat (el a) s i.toNat).2.1,D9 rS (some (spl (c.getD 0 0) (n-i).toNat (el a) s i.toNat).1),.int .i64 (spl (c.getD 0 0) (n-i).toNat (el a) s i.toNat).2.2]):=by
 simp only[uZ,I0,F5];exact A9 e
def A6D:S0:=⟨[(0,h 0 9),(1,h 1 9),(2,.int .i64 (0)),(3,h 2 3),(9,own 18 3 11),(10,h 4 3)],[(18,.sq 3 11 9 19),(19,.frz)],5,[⟨.exit 0,[(0,h 0 9),(9,own 20 1 11),(10,h 2 3)],[(20,.sq 1 11 9 21),(21,.frz)],3⟩]⟩
noncomputable def A1L:Code:=(f67.body).getD .skip
noncomputable def A5_:Code:=match G6 [true,true,true,true,true,true,true,true,false,false] A1L with|some (.loop x)=>x|_=>.skip
def A6C:f67.body=some A1L:=rfl
def A6B:G6 [true,true,true,true,true,true,true,true,false,false] A1L=some (.loop A5_):=C6
def A6A:Tr:=W9 4 2 5 (.fn KP [h 0 9,h 1 9] 1<|aL [h3 6,jI 0]<|.br 7 (.ret [jI 0,h 0 9,h 3 11,h3 4]) (aA [h3 6,jI 0]<|.lt 9 (.sub) [h 0 9,jI 0,h3 8]<|d7 3 4 10 (.dt 11 (.set 1 0) [h 3 11,h3 4,h 9 9]<|aD [h 1 9]<|aA [h3 6,h3 12]<|.lt 9 (.sub1) [h 0 9,h3 13]<|aA [h3 4,jI 1]<|.ret [jI (-1),h 14 9,h 1 9,h3 2,h 11 11,h3 15]))) (.ret [jI 0,h 0 9,h 3 11,h3 4])
def A1K:List U->Nat
 | [.str s,.str c,.int .i64 n,u_a,.int .i64 i]=>(match L4 rS u_a with|some a=>(n-i).toNat|none=>0)
 | _=>0
def A1J(s:B2)(c:B2)(n:Int)(a:(Option (List B2)))(i:Int):A1K [.str s,.str c,.int .i64 n,D9 rS a,.int .i64 i]=(n-i).toNat:=by
 simp only[A1K,I0]
def A9n{G}(q:L1 G):∀ (E:Nat->U) (base:Nat),@R0 ⟨E,G⟩ prog base gl f67.ntmps A5_ (N0 prog gl n0 22 A6D uZ):=by
 refine U5 (dep:=60) (f:=67) (n0:=n0) (nB:=22) (H0:=H0) A1K A6A (cxg (B09.2 q) .nil) q func67 A6C A6B C6 C6 C6 ?_;intro us d outs l;have w:=l;unfold uZ at l;split at l
 .skip;rename_i s c n A i;have t:=B3.1 l;clear l;obtain⟨a,g,l⟩:=t;replace g:=I6 g;subst g;split at l
  .rename_i o;clear l w;have B:=A7r s (c.getD 0 0);refine⟨rfl,?_⟩;unfold A6A;refine w0 (.cons 4 _ (.cons 3 _ (.cons 2 _ (.cons 1 _ (.cons 0 _ (.nil)))))) ?_;refine dC ?_;refine w5 (fun g0=>?_) fun g0=>?_
   .refine w7 [.int .i64 _,.str _,D9 rS _,.int .i64 _] ?_;refine I5 (d:=0) ?_;rw[rX _ _ _ _ _ o];refine SN ?_ o.2.1 o.2.2.2.2.2.2;first|exact IJ A2|(rw[show(n-i).toNat=0 by omega];rfl)
   refine w31 KP (e:=A3Y _ _ A2) (k':=?_);refine dC ?_;refine w4 (fun g1=>?_) fun g1=>?_
   .refine w7 [.int .i64 _,.str _,D9 rS _,.int .i64 _] ?_;refine I5 (d:=0) ?_;rw[rX _ _ _ _ _ o];refine SN ?_ o.2.1 o.2.2.2.2.2.2;first|exact IJ A2|(rw[show(n-i).toNat=0 by omega];rfl)
   first|refine dU ?_|refine Y5 ?_
   refine w1 (.sub) (e:=nP _ _ _ _ _ A2 A2 A2) (k':=?_);refine dI ?_;refine w5 (fun g2=>?_) fun g2=>?_
   .refine w8 ?_;first|omega|(simp_all;done)|(simp_all;omega)
   refine w2 (.set 1 0) (r:=rS) (e:=ST _ rfl (A1 rfl) A2 A2 rfl) (k':=?_);refine nW ?_;first|refine dU ?_|refine Y5 ?_
   refine w1 (.sub1) (e:=nO _ _ _ A2 A2) (k':=?_);first|refine dU ?_|refine Y5 ?_
   refine w7 [.int .i64 _,.str _,.str _,.int .i64 _,D9 rS _,.int .i64 _] ?_;refine N2 ?_ ?_
   .have h:(c.length:Int)=1:=A2;rw[h,rX _ _ _ _ _ ⟨o.1,A2,A2,by rw[GP,R1];omega,by rw[GP,R1];omega,by rw[E9];omega,rfl⟩,rX _ _ _ _ _ o,A2m o.2.1 g0 rfl g1];rfl
   .rw[A1J,A1J];omega
  .cases l
 .cases l
noncomputable def B1R:List LpE:=(67,([true,true,true,true,true,true,true,true,false,false],N0 prog gl n0 22 A6D uZ))::[]
def A2Y{G}(c:L1 G):Y1 prog G gl B1R:=.cons func67 A6C A6B (A9n c) .nil
def WY{c:UInt8}:∀ (k:Nat) (a:List B2) (s:B2) (i:Nat),(spl c k a s i).1.length=a.length/\i<=(spl c k a s i).2.2/\(spl c k a s i).2.2<=i+k
 | 0,a,s,i=>⟨rfl,A6 _,A6 _⟩
 | k+1,a,s,i=>by
   unfold spl;split
   .exact⟨rfl,A6 _,by show i<=i+(k+1);omega⟩
   .obtain⟨h1,e,h3⟩:=WY (c:=c) k (a.set i (s.take (Lib.indexByte s c).toNat)) (s.drop ((Lib.indexByte s c).toNat+1)) (i+1);rw[R1]at h1;exact⟨h1,A2,A2⟩
def nX(s:B2)(c:UInt8):=spl c (min (s.count c+1) (s.length+1)-1) (List.replicate (min (s.count c+1) (s.length+1)) []) s 0
def A2n(s:B2)(c:UInt8):((el (some (nX s c).1)).length:Int)=min (s.count c+1) (s.length+1)/\(nX s c).2.2<min (s.count c+1) (s.length+1):=by
 obtain⟨h1,e,h3⟩:=WY (c:=c) (min (s.count c+1) (s.length+1)-1) (List.replicate (min (s.count c+1) (s.length+1)) []) s 0;rw[T5]at h1;unfold nX el;exact⟨by show((spl _ _ _ _ _).1.length:Int)=_;omega,A2⟩
def A9o{s c:B2}(g:c.length=1)(l:s.length<=100000):uZ [.str s,.str c,.int .i64 (min ((Lib.countByte s (c.getD 0 0):Int)+1) ((s.length:Int)+1)-1),D9 rS (some (List.replicate (min ((Lib.countByte s (c.getD 0 0):Int)+1) ((s.length:Int)+1)).toNat [])),.int .i64 0]=some (0,[.str (nX s (c.getD 0 0)).2.1,D9 rS (some (nX s (c.getD 0 0)).1),.int .i64 (nX s (c.getD 0 0)).2.2]):=by
 have e:(min ((Lib.countByte s (c.getD 0 0):Int)+1) ((s.length:Int)+1)).toNat=min (s.count (c.getD 0 0)+1) (s.length+1):=by unfold Lib.countByte;omega
 have f:(min ((Lib.countByte s (c.getD 0 0):Int)+1) ((s.length:Int)+1)-1-0).toNat=min (s.count (c.getD 0 0)+1) (s.length+1)-1:=A2;rw[rX _ _ _ _ _ ⟨g,A2,A2,by rw[Q6,T5];omega,by rw[Q6,T5];omega,A2,rfl⟩,Q6,e,f];rfl
def ZU(s:B2)(c:UInt8):D9 rS (kZ (A2q (some (nX s c).1) ((nX s c).2.2:Int).toNat (nX s c).2.1) (0:Int).toNat ((nX s c).2.2+1:Int).toNat)=D9 rS (some (sp c s)):=by
 rw[<- xZ];have e:((nX s c).2.2+1:Int).toNat=(nX s c).2.2+1:=A2;rw[e];rfl
noncomputable def B0d:R3:=⟨_,fun c=>(.cons (A6Y c) .nil)⟩
def BS:List U->Option (Nat×List U)
 | [.str s,.str c]=>if c.length=1/\s.length<=100000 then some (0,[D9 rS ((some (sp (c.getD 0 0) s)))])else none
 | _=>none
def A2l(s:B2)(c:B2)(e:c.length=1/\s.length<=100000):BS [.str s,.str c]=some (0,[D9 rS ((some (sp (c.getD 0 0) s)))]):=A9 e
def A4W:Tr:=aE [h 1 9,.string ⟨⟨[]⟩⟩]<|.br 2 (.no) (.fn LT [h 0 9,h 1 9] 1<|aA [h3 3,jI 1]<|aD [h 0 9]<|aA [h3 5,jI 1]<|.lt 3 (.min) [h3 4,h3 6]<|.dt 11 (.rep 1) [h3 7,.string ⟨⟨[]⟩⟩]<|aS [h3 7,jI 1]<|.fn uZ [h 0 9,h 1 9,h3 9,h 8 11,jI 0] 3<|d7 11 12 13 (.dt 11 (.set 1 0) [h 11 11,h3 12,h 10 9]<|aA [h3 12,jI 1]<|.dt 11 (.subs 1) [h 14 11,jI 0,h3 15]<|.ret [h 16 11]))
def A4X{G}(f:L1 G):M3 prog G 31 [.s 9,.s 9] BS [.s 11]:=by
 refine G3 (d:=60) A4W (cxg (B0d.2 f) (A2Y f)) f ⟨f31,_,func31,rfl⟩ C6 C6 ?_;intro us outs g;unfold BS at g;split at g
 .skip;rename_i s c;split at g
  .rename_i l;cases g;have o:Lib.countByte s (c.getD 0 0)<=s.length:=dB;have q:=A2n s (c.getD 0 0);have n:((el (A2q (some (nX s (c.getD 0 0)).1) ((nX s (c.getD 0 0)).2.2:Int).toNat (nX s (c.getD 0 0)).2.1)).length:Int)=(el (some (nX s (c.getD 0 0)).1)).length:=by rw[GP,R1]
   unfold A4W;refine w0 (.cons 1 _ (.cons 0 _ (.nil))) ?_;refine MU ?_;refine w4 (fun g0=>?_) fun g0=>?_
   .refine w8 ?_;first|omega|(exfalso;subst g0;exact absurd l.1 E7)
   refine w31 LT (e:=A37 _ _ A2) (k':=?_);first|refine dU ?_|refine Y5 ?_
   refine nW ?_;first|refine dU ?_|refine Y5 ?_
   refine B1Z ?_;refine w2 (.rep 1) (r:=rS) (e:=A3j rfl A2 A2 rfl) (k':=?_);first|refine WI ?_|refine HY ?_
   refine w3 uZ (e:=A9o l.1 l.2) (k':=?_);show Wk _ _ (.cons _ _ (.cons _ _ (.cons _ _ _)));refine dI ?_;refine w5 (fun g1=>?_) fun g1=>?_
   .refine w8 ?_;first|omega|(exfalso;subst g0;exact absurd l.1 E7)
   refine w2 (.set 1 0) (r:=rS) (e:=ST _ rfl (A1 rfl) A2 A2 rfl) (k':=?_);first|refine dU ?_|refine Y5 ?_
   refine w2 (.subs 1) (r:=rS) (e:=LG rfl A2 A2 A2) (k':=?_);refine w7 [D9 rS _] ?_;exact F3 (fun z=>[z]) (ZU s (c.getD 0 0))
  .cases g
 .cases g
def A7j(s:B2):Lib.cut s [32]=Q1 s:=by
 unfold Lib.cut;rw[Lib.index_one];by_cases h:Lib.indexByte s 32<0
 .rw[A7 A2,A8N (B2R h)]
 .rw[A9 A2,A8M (B2Q h)];have e:(Lib.indexByte s 32+1).toNat=(Lib.indexByte s 32).toNat+1:=A2;rw[e];rfl
def DI:List U->Option (Nat×List U)
 | [.str s,.str c]=>if s.length<=100000000/\c=[32]then some (0,[.str ((Q1 s).1),.str ((Q1 s).2.1),.bool ((Q1 s).2.2)])else none
 | _=>none
def A31(s:B2)(c:B2)(e:s.length<=100000000/\c=[32]):DI [.str s,.str c]=some (0,[.str ((Q1 s).1),.str ((Q1 s).2.1),.bool ((Q1 s).2.2)]):=A9 e
def B0A{G}(g:L1 G):M3 prog G 91 [.s 9,.s 9] DI [.s 9,.s 9,.s 8]:=by
 intro us outs w vs R l f q hR;unfold DI at f;split at f
 .skip;rename_i s c;split at f
  .rename_i t;cases f;have hv:=U9 (vs2:=[.string ⟨⟨s⟩⟩,.string ⟨⟨c⟩⟩]) l rfl;subst hv;refine gF (vr:=[.string ⟨⟨(Q1 s).1⟩⟩,.string ⟨⟨(Q1 s).2.1⟩⟩,.bool (Q1 s).2.2]) func91 rfl C6 rfl ?_;obtain⟨h,rfl⟩:=t;refine(Tryz.strings_Cut_shaped ⟨⟨s⟩⟩ ⟨⟨[32]⟩⟩ w (vR g q) (by show s.length<_;omega)).mono fun e w' ⟨h1,n,o⟩=>⟨?_,by subst o;exact⟨rfl,rfl,rfl,A6 _,fun _ _=>rfl⟩⟩
   rw[show Lib.cut (ByteArray.mk (Array.mk s)).data.toList (ByteArray.mk (Array.mk [32])).data.toList=Q1 s from A7j s]at h1;exact h1
  .cases f
 .cases f
def lbn{s S:B2}{R B:Bool}(h:bnR s=R/\bnA s=S)(c:B=decide ((Q1 S).2.2=true/\BD (Q1 S).1=0/\(Q1 S).2.1≠[])):[U.int .i64 (kpO (Q1 S).1).1,.int .i64 (kpO (Q1 S).1).2.1,.int .i64 (kpO (Q1 S).1).2.2.1,.int .i64 (kpO (Q1 S).1).2.2.2.1,.int .i64 (kpO (Q1 S).1).2.2.2.2.1,.int .i64 (kpO (Q1 S).1).2.2.2.2.2.1,.int .i64 (kpO (Q1 S).1).2.2.2.2.2.2.1,.str (kpO (Q1 S).1).2.2.2.2.2.2.2,.str (Q1 S).2.1,.bool R,.bool B]=[U.int .i64 (bnG s).1,.int .i64 (bnG s).2.1,.int .i64 (bnG s).2.2.1,.int .i64 (bnG s).2.2.2.1,.int .i64 (bnG s).2.2.2.2.1,.int .i64 (bnG s).2.2.2.2.2.1,.int .i64 (bnG s).2.2.2.2.2.2.1,.str (bnG s).2.2.2.2.2.2.2.1,.str (bnG s).2.2.2.2.2.2.2.2.1,.bool (bnG s).2.2.2.2.2.2.2.2.2,.bool (decide (bnP s))]:=by
 obtain⟨rfl,rfl⟩:=h;subst c;rw[(yQ _).1];rfl
def B2j{s:B2}(h:¬3<=(s.length:Int)):bnR s=false/\bnA s=s:=by
 have e:bnR s=false:=E0 fun k=>h A2
 exact⟨e,by unfold bnA;rw[e,A7 E7]⟩
def B0L{s:B2}(h:¬List.take ((3:Int).toNat-(0:Int).toNat) (List.drop (0:Int).toNat s)=[45,114,32]):bnR s=false/\bnA s=s:=by
 have e:bnR s=false:=E0 fun k=>h k.1
 exact⟨e,by unfold bnA;rw[e,A7 E7]⟩
def B0K{s:B2}(h:List.drop (3:Int).toNat s=[]):bnR s=false/\bnA s=s:=by
 have e:bnR s=false:=E0 fun k=>by
  have:=F3 List.length h;have q:=k.2;rw[E9]at this;simp at this;omega
 exact⟨e,by unfold bnA;rw[e,A7 E7]⟩
def B0J{s:B2}(h:List.take ((3:Int).toNat-(0:Int).toNat) (List.drop (0:Int).toNat s)=[45,114,32])(c:List.drop (3:Int).toNat s≠[]):bnR s=true/\bnA s=List.drop (3:Int).toNat s:=by
 have e:bnR s=true:=J6 ⟨h,Nat.lt_of_not_le fun k=>c (R8 k)⟩;exact⟨e,by unfold bnA;rw[e,A9 rfl];rfl⟩
def B2s{S:B2}(h:(Q1 S).2.2=false):false=decide ((Q1 S).2.2=true/\BD (Q1 S).1=0/\(Q1 S).2.1≠[]):=(E0 fun k=>by rw[h]at k;cases k.1).symm
def B2r{S:B2}(h:¬kpE (Q1 S).1=0):false=decide ((Q1 S).2.2=true/\BD (Q1 S).1=0/\(Q1 S).2.1≠[]):=(E0 fun k=>h ((yQ _).2.trans k.2.1)).symm
def B2q{S:B2}(h1:(Q1 S).2.2=true)(h:kpE (Q1 S).1=0):decide ((Q1 S).2.1≠[])=decide ((Q1 S).2.2=true/\BD (Q1 S).1=0/\(Q1 S).2.1≠[]):=by
 rw[(yQ _).2]at h;exact decide_eq_decide.2 ⟨fun k=>⟨h1,h,k⟩,fun k=>k.2.2⟩
def TE(s:B2):(Q1 s).1.length<=s.length:=by
 unfold Q1;split
 .show(List.take _ s).length<=_;rw[I8];omega
 .exact A6 _
noncomputable def B1H:R3:=⟨_,fun c=>(.cons (B0A c) (.cons (RC c) .nil))⟩
def AE:List U->Option (Nat×List U)
 | [.str s]=>if s.length<=100000 then some (0,[.int .i64 ((bnG s).1),.int .i64 ((bnG s).2.1),.int .i64 ((bnG s).2.2.1),.int .i64 ((bnG s).2.2.2.1),.int .i64 ((bnG s).2.2.2.2.1),.int .i64 ((bnG s).2.2.2.2.2.1),.int .i64 ((bnG s).2.2.2.2.2.2.1),.str ((bnG s).2.2.2.2.2.2.2.1),.str ((bnG s).2.2.2.2.2.2.2.2.1),.bool ((bnG s).2.2.2.2.2.2.2.2.2),.bool (decide (bnP s))])else none
 | _=>none
def A4B(s:B2)(c:s.length<=100000):AE [.str s]=some (0,[.int .i64 ((bnG s).1),.int .i64 ((bnG s).2.1),.int .i64 ((bnG s).2.2.1),.int .i64 ((bnG s).2.2.2.1),.int .i64 ((bnG s).2.2.2.2.1),.int .i64 ((bnG s).2.2.2.2.2.1),.int .i64 ((bnG s).2.2.2.2.2.2.1),.str ((bnG s).2.2.2.2.2.2.2.1),.str ((bnG s).2.2.2.2.2.2.2.2.1),.bool ((bnG s).2.2.2.2.2.2.2.2.2),.bool (decide (bnP s))]):=A9 c
def PI(n:Nat):Tr:=.fn DI [h 0 9,.string ⟨⟨[32]⟩⟩] 3<|.fn rA [h n 9] 9<|.br (n+2) (K3 (n+11) (n+12) 0 (aN [h (n+1) 9,.string ⟨⟨[]⟩⟩]<|.ret [h3 (n+3),h3 (n+4),h3 (n+5),h3 (n+6),h3 (n+7),h3 (n+8),h3 (n+9),h (n+10) 9,h (n+1) 9,.bool false,h (n+13) 8]) (.ret [h3 (n+3),h3 (n+4),h3 (n+5),h3 (n+6),h3 (n+7),h3 (n+8),h3 (n+9),h (n+10) 9,h (n+1) 9,.bool false,.bool false])) (.ret [h3 (n+3),h3 (n+4),h3 (n+5),h3 (n+6),h3 (n+7),h3 (n+8),h3 (n+9),h (n+10) 9,h (n+1) 9,.bool false,.bool false])
def A6g:Tr:=y0 3 0 1 (.lt 9 (.sub) [h 0 9,jI 0,jI 3]<|aE [h 3 9,.string ⟨⟨[45,114,32]⟩⟩]<|M5 4 5 (PI 6) (fR 3 0 6 (.fn DI [h 6 9,.string ⟨⟨[32]⟩⟩] 3<|.fn rA [h 8 9] 9<|.br 10 (K3 19 20 0 (aN [h 9 9,.string ⟨⟨[]⟩⟩]<|.ret [h3 11,h3 12,h3 13,h3 14,h3 15,h3 16,h3 17,h 18 9,h 9 9,.bool true,h 21 8]) (.ret [h3 11,h3 12,h3 13,h3 14,h3 15,h3 16,h3 17,h 18 9,h 9 9,.bool true,.bool false])) (.ret [h3 11,h3 12,h3 13,h3 14,h3 15,h3 16,h3 17,h 18 9,h 9 9,.bool true,.bool false])) (PI 8))) (PI 3)
def A6h{G}(f:L1 G):M3 prog G 55 [.s 9] AE [.a [3,3,3,3,3,3,3,9,9,8],.s 8]:=by
 refine G3 (d:=60) A6g (cxg (B1H.2 f) .nil) f ⟨f55,_,func55,rfl⟩ C6 C6 ?_;intro us outs c;unfold AE at c;split at c
 .skip;rename_i s;split at c
  .rename_i o;cases c;unfold A6g;refine w0 (.cons 0 _ (.nil)) ?_;repeat (first|refine w4 (fun g=>?_) fun g=>?_|refine w4B (fun g=>?_) fun g=>?_|(refine w7 [.int .i64 _,.int .i64 _,.int .i64 _,.int .i64 _,.int .i64 _,.int .i64 _,.int .i64 _,.str _,.str _,.bool _,.bool _] ?_;rotate_left)|refine WJ ?_|(refine w3 DI (e:=A31 _ _ ⟨by first|omega|(rw[E9];omega),rfl⟩) (k':=?_);show Wk _ _ (.cons _ _ (.cons _ _ (.cons _ _ _))))|(refine w3 rA (e:=RB _ (by have n:=TE s;have l:=TE (List.drop (3:Int).toNat s);rw[E9]at l;omega)) (k':=?_);show Wk _ _ (.cons _ _ (.cons _ _ (.cons _ _ (.cons _ _ (.cons _ _ (.cons _ _ (.cons _ _ (.cons _ _ (.cons _ _ _))))))))))|refine fM ?_|refine nW ?_|refine kW ?_|refine w1 (.sub) (e:=nP _ _ _ _ _ A2 A2 A2) (k':=?_)|refine MU ?_|refine j9 ?_|refine w1 (.sub1) (e:=nO _ _ _ A2 A2) (k':=?_))
   all_goals
    refine lbn (by first|exact B2j ‹_›|exact B0L ‹_›|exact B0L (D7.1 ‹_›)|exact B0K ‹_›|exact B0K (D7.1 ‹_›)|exact B0J ‹_› ‹_›|exact B0J (D7.1 ‹_›) ‹_›) ?_;first|exact B2s ‹_›|exact B2r ‹_›|exact B2q ‹_› ‹_›
    all_goals (trace_state;done)
  .cases c
 .cases c
end
end Go.Proofs.YtbbicpheoakeeaaGreatDoor
