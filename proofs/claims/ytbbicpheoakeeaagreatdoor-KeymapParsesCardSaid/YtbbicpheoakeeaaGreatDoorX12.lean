import Derived.Test.YtbbicpheoakeeaaGreatDoorX11
import Derived.Lib.Bytealg
set_option linter.all false
set_option maxRecDepth 100000
set_option maxHeartbeats 4000000
namespace Go.Proofs.YtbbicpheoakeeaaGreatDoor
variable {x:Xt}{a a8 p s sep u z:B0}{d i j m v y:Int}{l:List Int}
section
open Go Go.Sx Go.Proofs.Tryz
def rS:Rw B0:=r1 xB
def nmL:List B0:=[[85,112],[68,111,119,110],[82,105,103,104,116],[76,101,102,116],[69,110,100],[72,111,109,101],[70,49],[70,50],[70,51],[70,52],[73,110,115,101,114,116],[68,101,108,101,116,101],[80,97,103,101,85,112],[80,97,103,101,68,111,119,110],[70,53],[70,54],[70,55],[70,56],[70,57],[70,49,48],[70,49,49],[70,49,50],[69,110,116,101,114],[84,97,98],[66,97,99,107],[69,115,99,97,112,101]]
def A4Q{R:Nat->Option Obj}{x:Option (List B0)}{vs:D3}(h:ShL R [.s 11,.s 9] [E8 rS x,.str sep] vs):∃ v,vs=[v,.string ⟨⟨sep⟩⟩]/\Enc R (E8 rS x) v:=by
 generalize hu:[E8 rS x,U.str sep]=us at h;cases h with
 | cons h1 c =>
   cases h1 with
   | s b t1 =>
     cases c with
     | cons h3 f =>
       cases h3 with
       | s e t2 =>
         cases f;simp only[S9,G7,N5,K0,and_true]at hu;obtain⟨rfl,rfl⟩:=hu
         have:=gT e (show toV (.str sep)=some (.string ⟨⟨sep⟩⟩)from rfl);subst this;exact⟨_,rfl,b⟩
def A2_{R:Nat->Option Obj}{x:Option (List B0)}{v:Value}(h:Enc R (E8 rS x) v):(el x=[]/\∃ a c,v=.slice a 0 c)∨∃ a o c C T fz,v=.slice (some ⟨a,o,none⟩) (el x).length c/\(el x).length<=c/\(el x≠[]->R a=some (.cells C T fz))/\∀ (j:Nat) (s:B0),(el x)[j]? = some s->C[o+j]? = some (.string ⟨⟨s⟩⟩):=by
 rw[T9]at h;generalize hu:U.seq _ _ _=u at h;cases h with
 | sc h=>subst hu;cases h
 | nil =>
   injection hu with h1 h2 h3
   exact .inl ⟨by simpa using h3,_,_,rfl⟩
 | emp =>
   injection hu with h1 h2 h3
   exact .inl ⟨by simpa using h3,_,_,rfl⟩
 | sl r A n hw h =>
   rename_i w rows a o c C T fz;injection hu with h1 h2 h3
   subst h3;have k:w=1:=h2.symm;subst k;have q:((el x).map rS.enc).length=(el x).length:=E7 ..;rw[q]at r n;refine .inr ⟨a,o,c,C,T,fz,by rw[q],r,fun g=>A (by simpa using g),fun j s f=>?_⟩;have g:(el x).map rS.enc≠[]:=by intro e;rw[List.map_eq_nil_iff.1 e]at f;cases f
   have t:j<(el x).length:=(B1.1 f).1;have n:=n g;have b:o+j<C.size:=A2
   have:=h j (rS.enc s) 0 (.str s) C[o+j] (by rw[F8,f];rfl) rfl (by rw[Nat.mul_one,kJ];exact F5 b);rw[F5 b,gT this (show toV (.str s)=some (.string ⟨⟨s⟩⟩)from rfl)]
def jnS(x:Option (List B0))(sep:B0):B0:=Lib.join (el x) sep
def A1s(l:List B0):(l.map (fun s=>ByteArray.mk ⟨s⟩)).map (·.data.toList)=l:=by
 rw[eO];exact(eA fun _ _=>rfl).trans (List.map_id _)
def XO:List U->Option (Nat×List U)
 | [u_x,.str sep]=>(P4 rS u_x).bind fun x=>if((el x).length:Int)<=1000000/\(jnS x sep).length<=1000000000 then some (0,[.str (jnS x sep)])else none
 | _=>none
def A93(x:(Option (List B0)))(sep:B0)(b:((el x).length:Int)<=1000000/\(jnS x sep).length<=1000000000):XO [E8 rS x,.str sep]=some (0,[.str (jnS x sep)]):=by
 simp only[XO,I0,F1];exact A8 b
def B5Q{G}(A:K4 G):L6 prog G 93 [.s 11,.s 9] XO [.s 9]:=by
 intro us outs w vs R q b D hR;unfold XO at b;split at b
 .skip;rename_i h sep;have g:=C3.1 b;clear b;obtain⟨x,f,b⟩:=g;replace f:=L1 f;subst f;split at b
  .rename_i B;cases b;refine gW (vr:=[.string ⟨⟨jnS x sep⟩⟩]) func93 rfl C9 rfl ?_;obtain⟨v,rfl,hv⟩:=A4Q q;rcases A2_ hv with⟨h0,a,c,rfl⟩|⟨a,o,c,C,T,fz,rfl,h1,t,h3⟩
   .refine((Tryz.strings_Join_none a c ⟨⟨sep⟩⟩ w).mono fun e w' ⟨g1,g2⟩=>⟨?_,by subst g2;exact RowKit.Below.refl _ _⟩);rw[g1];unfold jnS;rw[h0];rfl
   .by_cases n:el x=[]
    .rw[n];refine((Tryz.strings_Join_none _ c ⟨⟨sep⟩⟩ w).mono fun e w' ⟨g1,g2⟩=>⟨?_,by subst g2;exact RowKit.Below.refl _ _⟩);rw[g1];unfold jnS;rw[n];rfl
    .have r:=t n;have hw:=hR _ _ r;have key:=Tryz.strings_Join a o c ((el x).map (fun s=>ByteArray.mk ⟨s⟩)) ⟨⟨sep⟩⟩ w (fun j y k=>?_) (hR.lt r) (by rw[E7];omega) (by rw[E7];exact h1) (by rw[A1s];show(jnS x sep).length<=_;have:=B.2;omega)
     .rw[E7]at key;refine(key.mono fun e w' ⟨g1,g2⟩=>⟨?_,g2⟩);rw[g1,A1s];rfl
     .rw[F8]at k;cases b:(el x)[j]? with
      | none=>rw[b]at k;cases k
      | some s =>
        rw[b]at k;cases k;simp only[World.cell?,hw];exact h3 j s b
  .cases b
 .cases b
noncomputable def B3c:O9:=⟨_,fun b=>.nil⟩
def zO:List U->Option (Nat×List U)
 | []=>some (0,[E8 rS (some nmL)])
 | _=>none
def TL :zO []=some (0,[E8 rS (some nmL)]):=rfl
def A1d{G}(b:K4 G):L6 prog G 89 [] zO [.s 11]:=by
 refine hP (d:=60) (cxg (B3c.2 b) .nil) b ⟨f89,_,func89,rfl⟩ ?_;intro us outs c;unfold zO at c;split at c
 .cases c;exact⟨[],by kernel_rfl⟩
 .cases c
def UI(x:Option (List B0)):jnS x []=(el x).flatten:=by
 unfold jnS Lib.join;generalize el x=l;have h:∀ l:List B0,(List.intersperse [] l).flatten=l.flatten:=fun l=>by
  induction l with
  | nil=>rfl
  | cons a l c =>
    cases l with
    | nil=>rfl
    | cons b l=>rw[List.intersperse_cons_cons,P7,P7,c,P7 (l:=a)];rfl
 exact h l
noncomputable def B3m:O9:=⟨_,fun b=>(.cons (B5Q b) .nil)⟩
def fM:List U->Option (Nat×List U)
 | [u_x]=>(P4 rS u_x).bind fun x=>if((el x).length:Int)<=1000000/\((el x).flatten.length:Int)<=1000000000 then some (0,[.str ((el x).flatten)])else none
 | _=>none
def UH(x:(Option (List B0)))(b:((el x).length:Int)<=1000000/\((el x).flatten.length:Int)<=1000000000):fM [E8 rS x]=some (0,[.str ((el x).flatten)]):=by
 simp only[fM,I0,F1];exact A8 b
def L4(a0:Nat):Tr:=.ret [h a0 9]
def A7l:Tr:=.fn XO [h 0 11,.string ⟨⟨[]⟩⟩] 1<|L4 1
def A2L{G}(g:K4 G):L6 prog G 58 [.s 11] fM [.s 9]:=by
 refine F3 (d:=60) A7l (cxg (B3m.2 g) .nil) g ⟨f58,_,func58,rfl⟩ C9 C9 ?_;intro us outs c;unfold fM at c;split at c
 .skip;rename_i n;have f:=C3.1 c;clear c;obtain⟨x,b,c⟩:=f;replace b:=L1 b;subst b;split at c
  .rename_i k;cases c;unfold A7l;refine w0 (.cons 0 _ (.nil)) ?_;repeat (first|refine w31 XO (e:=A93 _ _ ⟨k.1,by rw[UI];omega⟩) (k':=?_)|(refine w7 [.str _] ?_;rotate_left))
   all_goals
    first|(rw[UI];done)
  .cases c
 .cases c
def KJ:List U->Option (Nat×List U)
 | [.str s,.int .i64 c]=>if 0<=c/\c<=1000/\(s.length:Int)<=1000 then some (0,[.str (Lib.repeatL s c.toNat)])else none
 | _=>none
def A4Z(s:B0)(c:Int)(b:0<=c/\c<=1000/\(s.length:Int)<=1000):KJ [.str s,.int .i64 c]=some (0,[.str (Lib.repeatL s c.toNat)]):=A8 b
def B0_{G}(o:K4 G):L6 prog G 34 [.s 9,.s 3] KJ [.s 9]:=by
 intro us outs w vs R f b q hR;unfold KJ at b;split at b
 .skip;rename_i s c;split at b
  .rename_i r;cases b;have hv:=V6 (vs2:=[.string ⟨⟨s⟩⟩,.int .i64 c]) f rfl;subst hv;refine gW (vr:=[.string ⟨⟨Lib.repeatL s c.toNat⟩⟩]) func34 rfl C9 rfl ?_;obtain⟨n,rfl⟩:∃ n:Nat,c=n:=⟨c.toNat,A2⟩;have g:s.length*n<=140737488355328:=C6 (fW (show s.length<=1000 by omega) (show n<=1000 by omega)) E3;exact(Tryz.strings_Repeat ⟨⟨s⟩⟩ n w A2 g).mono fun e w' ⟨h1,k⟩=>⟨h1,k⟩
  .cases b
 .cases b
def JQ:List U->Option (Nat×List U)
 | [.str s]=>if(s.length:Int)<=1000/\(∀ b ∈ s,b.toNat<128)then some (0,[.str (Lib.toUpperA s)])else none
 | _=>none
def A4H(s:B0)(c:(s.length:Int)<=1000/\(∀ b ∈ s,b.toNat<128)):JQ [.str s]=some (0,[.str (Lib.toUpperA s)]):=A8 c
def B0v{G}(k:K4 G):L6 prog G 107 [.s 9] JQ [.s 9]:=by
 intro us outs w vs R f c q hR;unfold JQ at c;split at c
 .skip;rename_i s;split at c
  .rename_i o;cases c;have hv:=V6 (vs2:=[.string ⟨⟨s⟩⟩]) f rfl;subst hv;refine gW (vr:=[.string ⟨⟨Lib.toUpperA s⟩⟩]) func107 rfl C9 rfl ?_;exact(Tryz.strings_ToUpper_ascii ⟨⟨s⟩⟩ w (by show s.length<=_;omega) (fun j b n=>by have:=o.2 b (D1 n);omega)).mono fun e w' ⟨h1,g⟩=>⟨h1,g⟩
  .cases c
 .cases c
def hU(d:Int):UInt8:=([48,49,50,51,52,53,54,55,56,57,65,66,67,68,69,70]:B0).getD d.toNat 0
def o7(c:Int):B0:=if c<65536 then[hU (c / 4096%16),hU (c / 256%16),hU (c / 16%16),hU (c%16)]else if c<1048576 then[hU (c / 65536%16),hU (c / 4096%16),hU (c / 256%16),hU (c / 16%16),hU (c%16)]else[hU (c / 1048576%16),hU (c / 65536%16),hU (c / 4096%16),hU (c / 256%16),hU (c / 16%16),hU (c%16)]
def j7(c:Int):B0:=if 1114113<=c then nmL.getD (c-1114113).toNat []else if c=32 then[83,112,97,99,101]else if c<=126 then[UInt8.ofNat c.toNat]else[85,43]++o7 c
def cc{a b:UInt8}{l m:B0}(h:a=b)(k:l=m):a::l=b::m:=by rw[h,k]
def A12{n m:Nat}(h:Nat.ble n m=true):(n:Int)<=(m:Int):=bV.2 (A1 h)
def hx(d:Int):Int:=((([48,49,50,51,52,53,54,55,56,57,97,98,99,100,101,102,103,104,105,106,107,108,109,110,111,112,113,114,115,116,117,118,119,120,121,122]:B0).getD d.toNat 0).toNat:Int)
def uN(d:Int):0<=hx d/\hx d<128:=by
 unfold hx;rcases G0 d.toNat 36 with h|h
 .have k:∀ n:Nat,n<36->(([48,49,50,51,52,53,54,55,56,57,97,98,99,100,101,102,103,104,105,106,107,108,109,110,111,112,113,114,115,116,117,118,119,120,121,122]:B0).getD n 0).toNat<128:=E3
  have:=k _ h;omega
 .rw[B2,gB.2 h];decide
def U5(d:Int):0<=hx d/\hx d<256:=by have:=uN d;omega
def v8(h0:0<=d)(h1:d<16):Lib.upperB (UInt8.ofNat (hx d).toNat)=hU d:=by
 have k:∀ n:Nat,n<16->Lib.upperB (UInt8.ofNat (((([48,49,50,51,52,53,54,55,56,57,97,98,99,100,101,102,103,104,105,106,107,108,109,110,111,112,113,114,115,116,117,118,119,120,121,122]:B0).getD n 0).toNat:Int)).toNat)=([48,49,50,51,52,53,54,55,56,57,65,66,67,68,69,70]:B0).getD n 0:=E3;exact k d.toNat A2
def B2Y(h0:0<=d)(h1:d<36):evU .idx [.str [48,49,50,51,52,53,54,55,56,57,97,98,99,100,101,102,103,104,105,106,107,108,109,110,111,112,113,114,115,116,117,118,119,120,121,122],.int .u64 d]=.int .u8 (hx d):=uS _ _ _ h0 (by show _<((36:Nat):Int);omega)
attribute [irreducible] hx
def YW(l:List Int):(Lib.toUpperA (iB l)).length=l.length:=by unfold Lib.toUpperA iB;rw[E7,E7]
def B4K(h:l.length<=6)(e:∀ x ∈ l,0<=x/\x<128):((iB l).length:Int)<=1000/\(∀ b ∈ iB l,b.toNat<128):=by
 unfold iB;refine⟨by rw[E7];omega,fun b f=>?_⟩;obtain⟨x,c,rfl⟩:=I6.1 f
 have:=e x c;show(UInt8.ofNat x.toNat).toNat<128;rw[UInt8.toNat_ofNat',X5 A2];omega
def B4N(h:l.length<=6):IntKind.i64.wrap (4-((Lib.toUpperA (iB l)).length:Int))=4-((Lib.toUpperA (iB l)).length:Int):=by
 rw[YW];exact jA A2 A2
def B5P(h:l.length<=6):((el (some [[85,43],Lib.repeatL [48] (max 0 (4-((Lib.toUpperA (iB l)).length:Int))).toNat,Lib.toUpperA (iB l)])).length:Int)<=1000000/\((el (some [[85,43],Lib.repeatL [48] (max 0 (4-((Lib.toUpperA (iB l)).length:Int))).toNat,Lib.toUpperA (iB l)])).flatten.length:Int)<=1000000000:=by
 refine⟨A12 (m:=1000000) rfl,?_⟩;rw[O5];simp only[P7,cM,N5,B7,Lib.repeatL_length,YW,C8,J3];omega
def B4i(h:l.length<=6):0<=max 0 (4-((Lib.toUpperA (iB l)).length:Int))/\max 0 (4-((Lib.toUpperA (iB l)).length:Int))<=1000/\((([48]:B0).length:Nat):Int)<=1000:=⟨A2,A2,A12 (m:=1000) rfl⟩
def FX(b:UInt8):0<=(b.toNat:Int)/\(b.toNat:Int)<256:=by have:=b.toNat_lt;omega
def YC{c:Int}(h:1114113<=c):j7 c=nmL.getD (c-1114113).toNat []:=A8 h
def CT{c:Int}(h:¬1114113<=c)(b:¬c=32)(h3:¬c<=126):j7 c=[85,43]++o7 c:=by unfold j7;rw[A6 h,A6 b,A6 h3]
def YE{c:Int}(h:¬1114113<=c)(b:¬c=32)(h3:c<=126):j7 c=[UInt8.ofNat c.toNat]:=by unfold j7;rw[A6 h,A6 b,A8 h3]
def YD{c:Int}(b:c=32):j7 c=[83,112,97,99,101]:=by subst b;rfl
def A3h{c:Int}(e:z=u)(hu:Lib.repeatL [48] (max 0 (4-(u.length:Int))).toNat++u=o7 c)(b:j7 c=[85,43]++o7 c):(el (some [[85,43],Lib.repeatL [48] (max 0 (4-(z.length:Int))).toNat,z])).flatten=j7 c:=by
 subst e;rw[b,<- hu,O5];simp only[P7,cM,N5]
def B54{c:Int}(h0:0<=c)(h1:c<256):Lib.toUpperA (iB [hx (c / 16),hx (c%16)])=[hU (c / 16%16),hU (c%16)]:=by
 show[Lib.upperB (UInt8.ofNat (hx (c / 16)).toNat),Lib.upperB (UInt8.ofNat (hx (c%16)).toNat)]=_;rw[v8 (d:=c / 16) A2 A2,v8 (d:=c%16) A2 A2];exact cc (E1 hU A2) (cc (E1 hU A2) (rfl))
def B5q{c:Int}(h0:0<=c)(h1:c<256):Lib.repeatL [48] (max 0 (4-(([hU (c / 16%16),hU (c%16)]:B0).length:Int))).toNat++[hU (c / 16%16),hU (c%16)]=o7 c:=by
 unfold o7;rw[A8 A2];rw[show c / 4096%16=0 by omega];rw[show c / 256%16=0 by omega];rfl
def B53{c:Int}(h0:0<=c)(h1:c<4096):Lib.toUpperA (iB [hx (c / 16 / 16),hx (c / 16%16),hx (c%16)])=[hU (c / 256%16),hU (c / 16%16),hU (c%16)]:=by
 show[Lib.upperB (UInt8.ofNat (hx (c / 16 / 16)).toNat),Lib.upperB (UInt8.ofNat (hx (c / 16%16)).toNat),Lib.upperB (UInt8.ofNat (hx (c%16)).toNat)]=_;rw[v8 (d:=c / 16 / 16) A2 A2,v8 (d:=c / 16%16) A2 A2,v8 (d:=c%16) A2 A2];exact cc (E1 hU A2) (cc (E1 hU A2) (cc (E1 hU A2) (rfl)))
def B5p{c:Int}(h0:0<=c)(h1:c<4096):Lib.repeatL [48] (max 0 (4-(([hU (c / 256%16),hU (c / 16%16),hU (c%16)]:B0).length:Int))).toNat++[hU (c / 256%16),hU (c / 16%16),hU (c%16)]=o7 c:=by
 unfold o7;rw[A8 A2];rw[show c / 4096%16=0 by omega];rfl
def B52{c:Int}(h0:0<=c)(h1:c<65536):Lib.toUpperA (iB [hx (c / 16 / 16 / 16),hx (c / 16 / 16%16),hx (c / 16%16),hx (c%16)])=[hU (c / 4096%16),hU (c / 256%16),hU (c / 16%16),hU (c%16)]:=by
 show[Lib.upperB (UInt8.ofNat (hx (c / 16 / 16 / 16)).toNat),Lib.upperB (UInt8.ofNat (hx (c / 16 / 16%16)).toNat),Lib.upperB (UInt8.ofNat (hx (c / 16%16)).toNat),Lib.upperB (UInt8.ofNat (hx (c%16)).toNat)]=_;rw[v8 (d:=c / 16 / 16 / 16) A2 A2,v8 (d:=c / 16 / 16%16) A2 A2,v8 (d:=c / 16%16) A2 A2,v8 (d:=c%16) A2 A2];exact cc (E1 hU A2) (cc (E1 hU A2) (cc (E1 hU A2) (cc (E1 hU A2) (rfl))))
def B5o{c:Int}(h0:0<=c)(h1:c<65536):Lib.repeatL [48] (max 0 (4-(([hU (c / 4096%16),hU (c / 256%16),hU (c / 16%16),hU (c%16)]:B0).length:Int))).toNat++[hU (c / 4096%16),hU (c / 256%16),hU (c / 16%16),hU (c%16)]=o7 c:=by
 unfold o7;rw[A8 A2];rfl
def B51{c:Int}(h0:0<=c)(h1:c<1048576):Lib.toUpperA (iB [hx (c / 16 / 16 / 16 / 16),hx (c / 16 / 16 / 16%16),hx (c / 16 / 16%16),hx (c / 16%16),hx (c%16)])=[hU (c / 65536%16),hU (c / 4096%16),hU (c / 256%16),hU (c / 16%16),hU (c%16)]:=by
 show[Lib.upperB (UInt8.ofNat (hx (c / 16 / 16 / 16 / 16)).toNat),Lib.upperB (UInt8.ofNat (hx (c / 16 / 16 / 16%16)).toNat),Lib.upperB (UInt8.ofNat (hx (c / 16 / 16%16)).toNat),Lib.upperB (UInt8.ofNat (hx (c / 16%16)).toNat),Lib.upperB (UInt8.ofNat (hx (c%16)).toNat)]=_;rw[v8 (d:=c / 16 / 16 / 16 / 16) A2 A2,v8 (d:=c / 16 / 16 / 16%16) A2 A2,v8 (d:=c / 16 / 16%16) A2 A2,v8 (d:=c / 16%16) A2 A2,v8 (d:=c%16) A2 A2];exact cc (E1 hU A2) (cc (E1 hU A2) (cc (E1 hU A2) (cc (E1 hU A2) (cc (E1 hU A2) (rfl)))))
def B5n{c:Int}(h0:0<=c)(h1:c<1048576)(b:65536<=c):Lib.repeatL [48] (max 0 (4-(([hU (c / 65536%16),hU (c / 4096%16),hU (c / 256%16),hU (c / 16%16),hU (c%16)]:B0).length:Int))).toNat++[hU (c / 65536%16),hU (c / 4096%16),hU (c / 256%16),hU (c / 16%16),hU (c%16)]=o7 c:=by
 unfold o7;rw[A6 A2,A8 A2];rfl
def B50{c:Int}(h0:0<=c)(h1:c<16777216):Lib.toUpperA (iB [hx (c / 16 / 16 / 16 / 16 / 16),hx (c / 16 / 16 / 16 / 16%16),hx (c / 16 / 16 / 16%16),hx (c / 16 / 16%16),hx (c / 16%16),hx (c%16)])=[hU (c / 1048576%16),hU (c / 65536%16),hU (c / 4096%16),hU (c / 256%16),hU (c / 16%16),hU (c%16)]:=by
 show[Lib.upperB (UInt8.ofNat (hx (c / 16 / 16 / 16 / 16 / 16)).toNat),Lib.upperB (UInt8.ofNat (hx (c / 16 / 16 / 16 / 16%16)).toNat),Lib.upperB (UInt8.ofNat (hx (c / 16 / 16 / 16%16)).toNat),Lib.upperB (UInt8.ofNat (hx (c / 16 / 16%16)).toNat),Lib.upperB (UInt8.ofNat (hx (c / 16%16)).toNat),Lib.upperB (UInt8.ofNat (hx (c%16)).toNat)]=_;rw[v8 (d:=c / 16 / 16 / 16 / 16 / 16) A2 A2,v8 (d:=c / 16 / 16 / 16 / 16%16) A2 A2,v8 (d:=c / 16 / 16 / 16%16) A2 A2,v8 (d:=c / 16 / 16%16) A2 A2,v8 (d:=c / 16%16) A2 A2,v8 (d:=c%16) A2 A2];exact cc (E1 hU A2) (cc (E1 hU A2) (cc (E1 hU A2) (cc (E1 hU A2) (cc (E1 hU A2) (cc (E1 hU A2) (rfl))))))
def B5m{c:Int}(h0:0<=c)(h1:c<16777216)(b:1048576<=c):Lib.repeatL [48] (max 0 (4-(([hU (c / 1048576%16),hU (c / 65536%16),hU (c / 4096%16),hU (c / 256%16),hU (c / 16%16),hU (c%16)]:B0).length:Int))).toNat++[hU (c / 1048576%16),hU (c / 65536%16),hU (c / 4096%16),hU (c / 256%16),hU (c / 16%16),hU (c%16)]=o7 c:=by
 unfold o7;rw[A6 A2,A6 A2];rfl
noncomputable def B34:O9:=⟨_,fun b=>(.cons (A1d b) (.cons (A2L b) (.cons (B0_ b) (.cons (B0v b) .nil))))⟩
def FM:List U->Option (Nat×List U)
 | [.int .i64 c]=>if(32<=c/\c<=126)∨(160<=c/\c<=1114111)∨(1114113<=c/\c<=1114138)then some (0,[.str (j7 c)])else none
 | _=>none
def A5u(c:Int)(b:(32<=c/\c<=126)∨(160<=c/\c<=1114111)∨(1114113<=c/\c<=1114138)):FM [.int .i64 c]=some (0,[.str (j7 c)]):=A8 b
def nL(a0:Nat):Tr:=.fn JQ [h a0 9] 1<|aD [h (a0+1) 9]<|aS [jI 4,h3 (a0+2)]<|.lt 3 (.max) [jI 0,h3 (a0+3)]<|.fn KJ [.string ⟨⟨[48]⟩⟩,h3 (a0+4)] 1<|.dt 11 (.mk 1) [.string ⟨⟨[85,43]⟩⟩,h (a0+5) 9,h (a0+1) 9]<|.fn fM [h (a0+6) 11] 1<|.ret [h (a0+7) 9]
def xL(a0:Nat)(b:Nat)(c e:Tr):Tr:=.lt 7 (.bin .and) [h a0 7,.int .u64 (15)]<|.lt 4 (.idx) [.string ⟨⟨[48,49,50,51,52,53,54,55,56,57,97,98,99,100,101,102,103,104,105,106,107,108,109,110,111,112,113,114,115,116,117,118,119,120,121,122]⟩⟩,h b 7]<|.lt 7 (.bin .shr) [h a0 7,.int .u64 (4)]<|aH [h (b+2) 7,.int .u64 (16)]<|.br (b+3) c e
def A8q:Tr:=J6 0 1 1114113 (.fn zO [] 1<|aS [h3 0,jI 1114113]<|cQ 2 3 4 (.lt 9 (.get 1 0) [h 2 11,h3 3]<|L4 5)) (J1 0 2 32 (.ret [.string ⟨⟨[83,112,97,99,101]⟩⟩]) (S2 0 3 126 (.lt 4 (.conv .u8) [h3 0]<|.lt 9 (.mks) [h 4 4]<|L4 5) (.lt 7 (.conv .u64) [h3 0]<|aL [h3 0,jI 0]<|.br 5 (.no) (aH [h 4 7,.int .u64 (16)]<|.br 6 (xL 4 7 (xL 9 11 (xL 13 15 (xL 17 19 (.lt 7 (.bin .and) [h 21 7,.int .u64 (15)]<|.lt 4 (.idx) [.string ⟨⟨[48,49,50,51,52,53,54,55,56,57,97,98,99,100,101,102,103,104,105,106,107,108,109,110,111,112,113,114,115,116,117,118,119,120,121,122]⟩⟩,h 23 7]<|.lt 7 (.bin .shr) [h 21 7,.int .u64 (4)]<|aH [h 25 7,.int .u64 (16)]<|.br 26 (.no) (.lt 4 (.idx) [.string ⟨⟨[48,49,50,51,52,53,54,55,56,57,97,98,99,100,101,102,103,104,105,106,107,108,109,110,111,112,113,114,115,116,117,118,119,120,121,122]⟩⟩,h 25 7]<|.lt 9 (.mks) [h 27 4,h 24 4,h 20 4,h 16 4,h 12 4,h 8 4]<|nL 28)) (.lt 4 (.idx) [.string ⟨⟨[48,49,50,51,52,53,54,55,56,57,97,98,99,100,101,102,103,104,105,106,107,108,109,110,111,112,113,114,115,116,117,118,119,120,121,122]⟩⟩,h 21 7]<|.lt 9 (.mks) [h 23 4,h 20 4,h 16 4,h 12 4,h 8 4]<|nL 24)) (.lt 4 (.idx) [.string ⟨⟨[48,49,50,51,52,53,54,55,56,57,97,98,99,100,101,102,103,104,105,106,107,108,109,110,111,112,113,114,115,116,117,118,119,120,121,122]⟩⟩,h 17 7]<|.lt 9 (.mks) [h 19 4,h 16 4,h 12 4,h 8 4]<|nL 20)) (.lt 4 (.idx) [.string ⟨⟨[48,49,50,51,52,53,54,55,56,57,97,98,99,100,101,102,103,104,105,106,107,108,109,110,111,112,113,114,115,116,117,118,119,120,121,122]⟩⟩,h 13 7]<|.lt 9 (.mks) [h 15 4,h 12 4,h 8 4]<|nL 16)) (.lt 4 (.idx) [.string ⟨⟨[48,49,50,51,52,53,54,55,56,57,97,98,99,100,101,102,103,104,105,106,107,108,109,110,111,112,113,114,115,116,117,118,119,120,121,122]⟩⟩,h 9 7]<|.lt 9 (.mks) [h 11 4,h 8 4]<|nL 12)) (.lt 4 (.idx) [.string ⟨⟨[48,49,50,51,52,53,54,55,56,57,97,98,99,100,101,102,103,104,105,106,107,108,109,110,111,112,113,114,115,116,117,118,119,120,121,122]⟩⟩,h 4 7]<|.lt 9 (.mks) [h 7 4]<|nL 8)))))
def B20{G}(n:K4 G):L6 prog G 84 [.s 3] FM [.s 9]:=by
 refine F3 (d:=60) A8q (cxg (B34.2 n) .nil) n ⟨f84,_,func84,rfl⟩ C9 C9 ?_;intro us outs k;unfold FM at k;split at k
 .skip;rename_i c;split at k
  .rename_i o;cases k;have q:((el (some nmL)).length:Int)=26:=rfl;unfold A8q;refine w0 (.cons 0 _ (.nil)) ?_;repeat (first|refine w4 (fun g=>?_) fun g=>?_|refine w1 (.idx) (e:=B2Y A2 A2) (k':=?_)|(refine w7 [.str _] ?_;rotate_left)|refine jD ?_|refine w31 JQ (e:=A4H _ (B4K (A1 rfl) (by intro f b;simp only[B3,K5,or_false]at b;first|omega|(rcases b with rfl|rfl|rfl|rfl|rfl|rfl<;>exact uN _)|(rcases b with rfl|rfl|rfl|rfl|rfl<;>exact uN _)|(rcases b with rfl|rfl|rfl|rfl<;>exact uN _)|(rcases b with rfl|rfl|rfl<;>exact uN _)|(rcases b with rfl|rfl<;>exact uN _)))) (k':=?_)|refine eG ?_|refine w1 (.bin .sub) (e:=UX (B4N (A1 rfl))) (k':=?_)|refine B4L ?_|refine w31 KJ (e:=A4Z _ _ (B4i (A1 rfl))) (k':=?_)|refine w2 (.mk 1) (r:=rS) (e:=IC [_,_,_] rfl E3 rfl) (k':=?_)|refine w31 fM (e:=UH _ (B5P (A1 rfl))) (k':=?_)|refine w1 (.bin .and) (e:=VF 4 16 E3 E3 E3) (k':=?_)|refine w1 (.bin .shr) (e:=UZ 16 E3 E3) (k':=?_)|refine qS ?_|refine jE ?_|(refine w8 ?_;first|omega)|refine OO ?_|refine yJ ?_|refine w1 (.mks) (e:=pW [_] (by intro f b;simp only[B3,K5,or_false]at b;first|omega|(rcases b with rfl|rfl|rfl|rfl|rfl|rfl<;>exact U5 _)|(rcases b with rfl|rfl|rfl|rfl|rfl<;>exact U5 _)|(rcases b with rfl|rfl|rfl|rfl<;>exact U5 _)|(rcases b with rfl|rfl|rfl<;>exact U5 _)|(rcases b with rfl|rfl<;>exact U5 _))) (k':=?_)|refine w31 zO (e:=TL) (k':=?_)|refine dV ?_|refine w1 (.get 1 0) (u:=.str _) (e:=E5 rfl A2 A2 rfl) (k':=?_)|refine eH ?_|refine pF ?_|refine aK ?_|refine w1 (.mks) (e:=pW [_,_,_,_,_,_] (by intro f b;simp only[B3,K5,or_false]at b;first|omega|(rcases b with rfl|rfl|rfl|rfl|rfl|rfl<;>exact U5 _)|(rcases b with rfl|rfl|rfl|rfl|rfl<;>exact U5 _)|(rcases b with rfl|rfl|rfl|rfl<;>exact U5 _)|(rcases b with rfl|rfl|rfl<;>exact U5 _)|(rcases b with rfl|rfl<;>exact U5 _))) (k':=?_)|refine w1 (.mks) (e:=pW [_,_,_,_,_] (by intro f b;simp only[B3,K5,or_false]at b;first|omega|(rcases b with rfl|rfl|rfl|rfl|rfl|rfl<;>exact U5 _)|(rcases b with rfl|rfl|rfl|rfl|rfl<;>exact U5 _)|(rcases b with rfl|rfl|rfl|rfl<;>exact U5 _)|(rcases b with rfl|rfl|rfl<;>exact U5 _)|(rcases b with rfl|rfl<;>exact U5 _))) (k':=?_)|refine w1 (.mks) (e:=pW [_,_,_,_] (by intro f b;simp only[B3,K5,or_false]at b;first|omega|(rcases b with rfl|rfl|rfl|rfl|rfl|rfl<;>exact U5 _)|(rcases b with rfl|rfl|rfl|rfl|rfl<;>exact U5 _)|(rcases b with rfl|rfl|rfl|rfl<;>exact U5 _)|(rcases b with rfl|rfl|rfl<;>exact U5 _)|(rcases b with rfl|rfl<;>exact U5 _))) (k':=?_)|refine w1 (.mks) (e:=pW [_,_,_] (by intro f b;simp only[B3,K5,or_false]at b;first|omega|(rcases b with rfl|rfl|rfl|rfl|rfl|rfl<;>exact U5 _)|(rcases b with rfl|rfl|rfl|rfl|rfl<;>exact U5 _)|(rcases b with rfl|rfl|rfl|rfl<;>exact U5 _)|(rcases b with rfl|rfl|rfl<;>exact U5 _)|(rcases b with rfl|rfl<;>exact U5 _))) (k':=?_)|refine w1 (.mks) (e:=pW [_,_] (by intro f b;simp only[B3,K5,or_false]at b;first|omega|(rcases b with rfl|rfl|rfl|rfl|rfl|rfl<;>exact U5 _)|(rcases b with rfl|rfl|rfl|rfl|rfl<;>exact U5 _)|(rcases b with rfl|rfl|rfl|rfl<;>exact U5 _)|(rcases b with rfl|rfl|rfl<;>exact U5 _)|(rcases b with rfl|rfl<;>exact U5 _))) (k':=?_))
   all_goals
    first
    | (exfalso;omega)
    | exact E1 (fun z=>[U.str z]) (YC ‹_›).symm
    | exact E1 (fun z=>[U.str z]) (YD ‹_›).symm
    | (rw[YE ‹_› ‹_› ‹_›];rfl)
    | exact E1 (fun z=>[U.str z]) (A3h (B54 A2 A2) (B5q A2 A2) (CT ‹_› ‹_› ‹_›))
    | exact E1 (fun z=>[U.str z]) (A3h (B53 A2 A2) (B5p A2 A2) (CT ‹_› ‹_› ‹_›))
    | exact E1 (fun z=>[U.str z]) (A3h (B52 A2 A2) (B5o A2 A2) (CT ‹_› ‹_› ‹_›))
    | exact E1 (fun z=>[U.str z]) (A3h (B51 A2 A2) (B5n A2 A2 A2) (CT ‹_› ‹_› ‹_›))
    | exact E1 (fun z=>[U.str z]) (A3h (B50 A2 A2) (B5m A2 A2 A2) (CT ‹_› ‹_› ‹_›))
  .cases k
 .cases k
end
section
open Go Go.Sx Go.Proofs.Tryz
def B0y{x:Int}(h0:0<=x)(h1:x<16):(([48,49,50,51,52,53,54,55,56,57,65,66,67,68,69,70]:B0).drop x.toNat).take ((x+1).toNat-x.toNat)=[hU x]:=by
 have k:∀ n:Nat,n<16->(([48,49,50,51,52,53,54,55,56,57,65,66,67,68,69,70]:B0).drop n).take 1=[([48,49,50,51,52,53,54,55,56,57,65,66,67,68,69,70]:B0).getD n 0]:=E3;rw[show(x+1).toNat-x.toNat=1 by omega];exact k x.toNat A2
def B2Z{j k:IntKind}{x:Int}(h0:0<=x)(h1:x<16)(b:y=x+1):evU .sub [.str [48,49,50,51,52,53,54,55,56,57,65,66,67,68,69,70],.int j x,.int k y]=.str [hU x]:=by
 subst b;rw[t6 _ _ _ _ _ h0 A2 (by show _<=((16:Nat):Int);omega),B0y h0 h1]
def N2(x:Xt):B0:=(if x.2.2.1 / 4%2*4=0 then[]else[67,45])++((if x.2.2.1 / 2%2*2=0 then[]else[77,45])++((if x.2.2.1 / 1%2*1=0 then[]else[83,45])++j7 x.2.1))
noncomputable def B3r:O9:=⟨_,fun b=>.nil⟩
def kU:List U->Option (Nat×List U)
 | [.int .i64 c]=>if 160<=c/\c<=1114111 then some (0,[.str (o7 c)])else none
 | _=>none
def A5H(c:Int)(b:160<=c/\c<=1114111):kU [.int .i64 c]=some (0,[.str (o7 c)]):=A8 b
def xJ(a0:Nat)(b:Nat)(c:Tr):Tr:=.lt 3 (.bin .rem) [h3 (a0+1),jI 16]<|.lt 3 (.bin .rem) [h3 (a0+1),jI 16]<|aA [h3 (b+1),jI 1]<|.lt 9 (.sub) [.string ⟨⟨[48,49,50,51,52,53,54,55,56,57,65,66,67,68,69,70]⟩⟩,h3 b,h3 (b+2)]<|aC [h (b+3) 9,h a0 9]<|.lt 3 (.bin .quo) [h3 (a0+1),jI 16]<|aG [h3 (b+5),jI 0]<|.br (b+6) .no c
def xK(a0:Nat)(b c:Tr):Tr:=.lt 3 (.bin .rem) [h3 (a0+1),jI 16]<|.lt 3 (.bin .rem) [h3 (a0+1),jI 16]<|aA [h3 (a0+4),jI 1]<|.lt 9 (.sub) [.string ⟨⟨[48,49,50,51,52,53,54,55,56,57,65,66,67,68,69,70]⟩⟩,h3 (a0+3),h3 (a0+5)]<|aC [h (a0+6) 9,h a0 9]<|.lt 3 (.bin .quo) [h3 (a0+1),jI 16]<|aG [h3 (a0+8),jI 0]<|.br (a0+9) b c
def A7z:Tr:=aG [h3 0,jI 0]<|.br 1 (.lt 3 (.bin .rem) [h3 0,jI 16]<|.lt 3 (.bin .rem) [h3 0,jI 16]<|aA [h3 3,jI 1]<|.lt 9 (.sub) [.string ⟨⟨[48,49,50,51,52,53,54,55,56,57,65,66,67,68,69,70]⟩⟩,h3 2,h3 4]<|aC [h 5 9,.string ⟨⟨[]⟩⟩]<|.lt 3 (.bin .quo) [h3 0,jI 16]<|aG [h3 7,jI 0]<|.br 8 (xK 6 (xK 13 (xK 20 (xK 27 (xJ 34 37 (aD [h 41 9]<|aL [h3 44,jI 4]<|.br 45 (.no) (L4 41))) (aD [h 34 9]<|aL [h3 37,jI 4]<|.br 38 (.no) (L4 34))) (aD [h 27 9]<|aL [h3 30,jI 4]<|.br 31 (.no) (L4 27))) (aD [h 20 9]<|aL [h3 23,jI 4]<|.br 24 (xJ 20 25 (aD [h 29 9]<|aL [h3 32,jI 4]<|.br 33 (.no) (L4 29))) (.no))) (aD [h 13 9]<|aL [h3 16,jI 4]<|.br 17 (xJ 13 18 (aD [h 22 9]<|aL [h3 25,jI 4]<|.br 26 (xJ 22 27 (aD [h 31 9]<|aL [h3 34,jI 4]<|.br 35 (.no) (L4 31))) (.no))) (.no))) (.no)) (.no)
def B2E{G}(f:K4 G):L6 prog G 86 [.s 3] kU [.s 9]:=by
 refine F3 (d:=60) A7z (cxg (B3r.2 f) .nil) f ⟨f86,_,func86,rfl⟩ C9 C9 ?_;intro us outs b;unfold kU at b;split at b
 .skip;rename_i c;split at b
  .rename_i k;cases b;unfold A7z;refine w0 (.cons 0 _ (.nil)) ?_;repeat (first|refine A4I ?_|refine w1 (.bin .rem) (e:=AV _ _ _ A2) (k':=?_)|refine w4 (fun g=>?_) fun g=>?_|refine bW ?_|refine W4 ?_|refine A87 ?_|refine w1 (.bin .quo) (e:=IB _ _ _ A2) (k':=?_)|(refine w8 ?_;first|omega|(simp only[B7,C8,J3]at g;omega))|refine oM ?_|refine w1 (.sub) (e:=B2Z A2 A2 rfl) (k':=?_)|refine w1 (.bin .add) (e:=AW _ _ (by simp only[B7,C8,J3];omega)) (k':=?_)|refine eG ?_|refine aK ?_|(refine w7 [.str _] ?_;rotate_left))
   all_goals
    refine E1 (fun z=>[U.str z]) ?_;unfold o7;first
    | (rw[A8 A2];exact cc (E1 hU A2) (cc (E1 hU A2) (cc (E1 hU A2) (cc (E1 hU A2) (rfl)))))
    | (rw[A6 A2,A8 A2];exact cc (E1 hU A2) (cc (E1 hU A2) (cc (E1 hU A2) (cc (E1 hU A2) (cc (E1 hU A2) (rfl))))))
    | (rw[A6 A2,A6 A2];exact cc (E1 hU A2) (cc (E1 hU A2) (cc (E1 hU A2) (cc (E1 hU A2) (cc (E1 hU A2) (cc (E1 hU A2) (rfl)))))))
  .cases b
 .cases b
def HP(c:Int):(o7 c).length<=6:=by
 unfold o7
 (repeat' split)<;>exact A1 rfl
def A1e:∀ n:Nat,(nmL.getD n []).length<=8:=by
 intro n;rcases G0 n 26 with h|h
 .have k:∀ n:Nat,n<26->(nmL.getD n []).length<=8:=E3;exact k n h
 .rw[B2,gB.2 h];decide
def RI(c:Int):(j7 c).length<=8:=by
 unfold j7;split
 .exact A1e _
 .split
  .decide
  .split
   .exact A1 rfl
   .have:=HP c;rw[B7];show 2+_<=8;omega
def cR(c:Int):Prop:=(32<=c/\c<=126)∨(160<=c/\c<=1114111)∨(1114113<=c/\c<=1114138)
instance(c:Int):Decidable (cR c):=by unfold cR;infer_instance
def A9z{c:Int}(h:aM c m):cR c:=by unfold aM chP okU at h;unfold cR;omega
def A82(h:xP x)(h1:x.1=1):aM x.2.1 x.2.2.1:=by
 unfold xP Y3 at h;rcases h with h|h|h|h
 .exact h.2.2.2.2.2.2
 .omega
 .omega
 .omega
def wA(h:kyP x):cR x.2.1:=A9z (A82 h.2 h.1)
def mA(x:Xt):Int:=if ¬xP x then 430 else if x.1≠1 then 2 else 0
def zQ(x:Xt):B0:=if mA x=0 then N2 x else[]
def B1Y(h:(if xP x then(0:Int)else 430)≠0):[U.str [],U.int .i64 (if xP x then(0:Int)else 430)]=[U.str (zQ x),U.int .i64 (mA x)]:=by
 have k:=A83 h;have e:mA x=430:=by unfold mA;rw[A8 k]
 unfold zQ;rw[A6 k,e,A6 E3]
def B1X(h:¬(if xP x then(0:Int)else 430)≠0)(h1:x.1≠1):[U.str [],U.int .i64 2]=[U.str (zQ x),U.int .i64 (mA x)]:=by
 have e:mA x=2:=by unfold mA;rw[A6 (fun k=>k (YO h)),A8 h1]
 unfold zQ;rw[e,A6 E3]
def B1W(h:¬(if xP x then(0:Int)else 430)≠0)(h1:¬x.1≠1):[U.str (N2 x),U.int .i64 0]=[U.str (zQ x),U.int .i64 (mA x)]:=by
 have e:mA x=0:=by unfold mA;rw[A6 (fun k=>k (YO h)),A6 h1]
 unfold zQ;rw[e,A8 rfl]
def B1Z(h:¬(if xP x then(0:Int)else 430)≠0)(h1:¬x.1≠1):cR x.2.1:=wA ⟨B5.1 h1,YO h⟩
noncomputable def B3e:O9:=⟨_,fun b=>(.cons (B20 b) (.cons (A2L b) .nil))⟩
def zR:List U->Option (Nat×List U)
 | [.int .i64 k,.int .i64 c,.int .i64 m,.int .i64 w,.int .i64 b,.int .i64 r,.int .i64 cl,.str t]=>if cR c then some (0,[.str (N2 (k,c,m,w,b,r,cl,t))])else none
 | _=>none
def TP(k:Int)(c:Int)(m:Int)(w:Int)(b:Int)(r:Int)(cl:Int)(t:B0)(e:cR c):zR [.int .i64 k,.int .i64 c,.int .i64 m,.int .i64 w,.int .i64 b,.int .i64 r,.int .i64 cl,.str t]=some (0,[.str (N2 (k,c,m,w,b,r,cl,t))]):=A8 e
def qP(a0:Nat)(b:Nat):Tr:=.fn FM [h3 1] 1<|.dt 11 (.mk 1) [h a0 9,h b 9]<|.fn fM [h (b+1) 11] 1<|.ret [h (b+2) 9]
def A1n(n:Nat):Tr:=qP 15 n
def A1m(n:Nat):Tr:=.fn fM [h 16 11] 1<|qP n (n+1)
def A7M:Tr:=t8 2 4 8 (.dt 11 (.mk 1) [.string ⟨⟨[]⟩⟩,.string ⟨⟨[67,45]⟩⟩]<|.fn fM [h 10 11] 1<|t8 2 2 12 (.dt 11 (.mk 1) [h 11 9,.string ⟨⟨[77,45]⟩⟩]<|.fn fM [h 14 11] 1<|t8 2 1 16 (.dt 11 (.mk 1) [h 15 9,.string ⟨⟨[83,45]⟩⟩]<|.fn fM [h 18 11] 1<|qP 19 20) (A1n 18)) (t8 2 1 14 (.dt 11 (.mk 1) [h 11 9,.string ⟨⟨[83,45]⟩⟩]<|A1m 17) (qP 11 16))) (t8 2 2 10 (.dt 11 (.mk 1) [.string ⟨⟨[]⟩⟩,.string ⟨⟨[77,45]⟩⟩]<|.fn fM [h 12 11] 1<|t8 2 1 14 (.dt 11 (.mk 1) [h 13 9,.string ⟨⟨[83,45]⟩⟩]<|A1m 17) (qP 13 16)) (t8 2 1 12 (.dt 11 (.mk 1) [.string ⟨⟨[]⟩⟩,.string ⟨⟨[83,45]⟩⟩]<|.fn fM [h 14 11] 1<|A1n 16) (.fn FM [h3 1] 1<|.dt 11 (.mk 1) [.string ⟨⟨[]⟩⟩,h 14 9]<|.fn fM [h 15 11] 1<|.ret [h 16 9])))
def A7N{G}(n:K4 G):L6 prog G 48 [.a [3,3,3,3,3,3,3,9]] zR [.s 9]:=by
 refine F3 (d:=60) A7M (cxg (B3e.2 n) .nil) n ⟨f48,_,func48,rfl⟩ C9 C9 ?_;intro us outs f;unfold zR at f;split at f
 .skip;rename_i k c m w b r cl t;split at f
  .rename_i o;cases f;have q:=RI c;unfold A7M;refine w0 (.cons 7 _ (.cons 6 _ (.cons 5 _ (.cons 4 _ (.cons 3 _ (.cons 2 _ (.cons 1 _ (.cons 0 _ (.nil))))))))) ?_;repeat (first|refine w2 (.mk 1) (r:=rS) (e:=IC [_,_] rfl E3 rfl) (k':=?_)|refine w31 fM (e:=UH _ ⟨A12 (m:=1000000) rfl,by simp only[O5,P7,cM,N5,G7,M0,B7,C8,J3];omega⟩) (k':=?_)|refine w31 FM (e:=A5u _ o) (k':=?_)|(refine w7 [.str _] ?_;rotate_left)|refine wT ?_|refine w4 (fun g=>?_) fun g=>?_|refine w1 (.bin .and) (e:=VE _) (k':=?_)|refine w1 (.bin .and) (e:=VD _) (k':=?_)|refine w1 (.bin .and) (e:=ID _) (k':=?_))
   all_goals
    refine E1 (fun z=>[U.str z]) ?_;unfold N2;first|rw[A8 (show m / 4%2*4=0 by omega)]|rw[A6 (show ¬m / 4%2*4=0 by omega)]
    first|rw[A8 (show m / 2%2*2=0 by omega)]|rw[A6 (show ¬m / 2%2*2=0 by omega)]
    first|rw[A8 (show m / 1%2*1=0 by omega)]|rw[A6 (show ¬m / 1%2*1=0 by omega)]
    simp only[O5,P7,cM,N5,G7,M0]<;>first|done|rfl
  .cases f
 .cases f
noncomputable def B3O:O9:=⟨_,fun b=>(.cons (B2E b) .nil)⟩
def oV:List U->Option (Nat×List U)
 | [.int .i64 k,.int .i64 c,.int .i64 m,.int .i64 w,.int .i64 b,.int .i64 r,.int .i64 cl,.str t]=>if cR c then some (0,[.str (N2 (k,c,m,w,b,r,cl,t))])else none
 | _=>none
def GJ(k:Int)(c:Int)(m:Int)(w:Int)(b:Int)(r:Int)(cl:Int)(t:B0)(e:cR c):oV [.int .i64 k,.int .i64 c,.int .i64 m,.int .i64 w,.int .i64 b,.int .i64 r,.int .i64 cl,.str t]=some (0,[.str (N2 (k,c,m,w,b,r,cl,t))]):=A8 e
def A6f:Tr:=t8 2 4 8 (t8 2 2 10 (t8 2 1 12 (J6 1 14 1114113 (aS [h3 1,jI 1114113]<|.lt 9 (.sel) [h3 15,.string ⟨⟨[85,112]⟩⟩,.string ⟨⟨[68,111,119,110]⟩⟩,.string ⟨⟨[82,105,103,104,116]⟩⟩,.string ⟨⟨[76,101,102,116]⟩⟩,.string ⟨⟨[69,110,100]⟩⟩,.string ⟨⟨[72,111,109,101]⟩⟩,.string ⟨⟨[70,49]⟩⟩,.string ⟨⟨[70,50]⟩⟩,.string ⟨⟨[70,51]⟩⟩,.string ⟨⟨[70,52]⟩⟩,.string ⟨⟨[73,110,115,101,114,116]⟩⟩,.string ⟨⟨[68,101,108,101,116,101]⟩⟩,.string ⟨⟨[80,97,103,101,85,112]⟩⟩,.string ⟨⟨[80,97,103,101,68,111,119,110]⟩⟩,.string ⟨⟨[70,53]⟩⟩,.string ⟨⟨[70,54]⟩⟩,.string ⟨⟨[70,55]⟩⟩,.string ⟨⟨[70,56]⟩⟩,.string ⟨⟨[70,57]⟩⟩,.string ⟨⟨[70,49,48]⟩⟩,.string ⟨⟨[70,49,49]⟩⟩,.string ⟨⟨[70,49,50]⟩⟩,.string ⟨⟨[69,110,116,101,114]⟩⟩,.string ⟨⟨[84,97,98]⟩⟩,.string ⟨⟨[66,97,99,107]⟩⟩,.string ⟨⟨[69,115,99,97,112,101]⟩⟩]<|aC [.string ⟨⟨[67,45,77,45,83,45]⟩⟩,h 16 9]<|L4 17) (J1 1 15 32 (.ret [.string ⟨⟨[67,45,77,45,83,45,83,112,97,99,101]⟩⟩]) (Y0 1 16 127 (.lt 4 (.conv .u8) [h3 1]<|.lt 9 (.mks) [h 17 4]<|aC [.string ⟨⟨[67,45,77,45,83,45]⟩⟩,h 18 9]<|L4 19) (.fn kU [h3 1] 1<|aC [.string ⟨⟨[67,45,77,45,83,45,85,43]⟩⟩,h 17 9]<|L4 18)))) (J6 1 14 1114113 (aS [h3 1,jI 1114113]<|.lt 9 (.sel) [h3 15,.string ⟨⟨[85,112]⟩⟩,.string ⟨⟨[68,111,119,110]⟩⟩,.string ⟨⟨[82,105,103,104,116]⟩⟩,.string ⟨⟨[76,101,102,116]⟩⟩,.string ⟨⟨[69,110,100]⟩⟩,.string ⟨⟨[72,111,109,101]⟩⟩,.string ⟨⟨[70,49]⟩⟩,.string ⟨⟨[70,50]⟩⟩,.string ⟨⟨[70,51]⟩⟩,.string ⟨⟨[70,52]⟩⟩,.string ⟨⟨[73,110,115,101,114,116]⟩⟩,.string ⟨⟨[68,101,108,101,116,101]⟩⟩,.string ⟨⟨[80,97,103,101,85,112]⟩⟩,.string ⟨⟨[80,97,103,101,68,111,119,110]⟩⟩,.string ⟨⟨[70,53]⟩⟩,.string ⟨⟨[70,54]⟩⟩,.string ⟨⟨[70,55]⟩⟩,.string ⟨⟨[70,56]⟩⟩,.string ⟨⟨[70,57]⟩⟩,.string ⟨⟨[70,49,48]⟩⟩,.string ⟨⟨[70,49,49]⟩⟩,.string ⟨⟨[70,49,50]⟩⟩,.string ⟨⟨[69,110,116,101,114]⟩⟩,.string ⟨⟨[84,97,98]⟩⟩,.string ⟨⟨[66,97,99,107]⟩⟩,.string ⟨⟨[69,115,99,97,112,101]⟩⟩]<|aC [.string ⟨⟨[67,45,77,45]⟩⟩,h 16 9]<|L4 17) (J1 1 15 32 (.ret [.string ⟨⟨[67,45,77,45,83,112,97,99,101]⟩⟩]) (Y0 1 16 127 (.lt 4 (.conv .u8) [h3 1]<|.lt 9 (.mks) [h 17 4]<|aC [.string ⟨⟨[67,45,77,45]⟩⟩,h 18 9]<|L4 19) (.fn kU [h3 1] 1<|aC [.string ⟨⟨[67,45,77,45,85,43]⟩⟩,h 17 9]<|L4 18))))) (t8 2 1 12 (J6 1 14 1114113 (aS [h3 1,jI 1114113]<|.lt 9 (.sel) [h3 15,.string ⟨⟨[85,112]⟩⟩,.string ⟨⟨[68,111,119,110]⟩⟩,.string ⟨⟨[82,105,103,104,116]⟩⟩,.string ⟨⟨[76,101,102,116]⟩⟩,.string ⟨⟨[69,110,100]⟩⟩,.string ⟨⟨[72,111,109,101]⟩⟩,.string ⟨⟨[70,49]⟩⟩,.string ⟨⟨[70,50]⟩⟩,.string ⟨⟨[70,51]⟩⟩,.string ⟨⟨[70,52]⟩⟩,.string ⟨⟨[73,110,115,101,114,116]⟩⟩,.string ⟨⟨[68,101,108,101,116,101]⟩⟩,.string ⟨⟨[80,97,103,101,85,112]⟩⟩,.string ⟨⟨[80,97,103,101,68,111,119,110]⟩⟩,.string ⟨⟨[70,53]⟩⟩,.string ⟨⟨[70,54]⟩⟩,.string ⟨⟨[70,55]⟩⟩,.string ⟨⟨[70,56]⟩⟩,.string ⟨⟨[70,57]⟩⟩,.string ⟨⟨[70,49,48]⟩⟩,.string ⟨⟨[70,49,49]⟩⟩,.string ⟨⟨[70,49,50]⟩⟩,.string ⟨⟨[69,110,116,101,114]⟩⟩,.string ⟨⟨[84,97,98]⟩⟩,.string ⟨⟨[66,97,99,107]⟩⟩,.string ⟨⟨[69,115,99,97,112,101]⟩⟩]<|aC [.string ⟨⟨[67,45,83,45]⟩⟩,h 16 9]<|L4 17) (J1 1 15 32 (.ret [.string ⟨⟨[67,45,83,45,83,112,97,99,101]⟩⟩]) (Y0 1 16 127 (.lt 4 (.conv .u8) [h3 1]<|.lt 9 (.mks) [h 17 4]<|aC [.string ⟨⟨[67,45,83,45]⟩⟩,h 18 9]<|L4 19) (.fn kU [h3 1] 1<|aC [.string ⟨⟨[67,45,83,45,85,43]⟩⟩,h 17 9]<|L4 18)))) (J6 1 14 1114113 (aS [h3 1,jI 1114113]<|.lt 9 (.sel) [h3 15,.string ⟨⟨[85,112]⟩⟩,.string ⟨⟨[68,111,119,110]⟩⟩,.string ⟨⟨[82,105,103,104,116]⟩⟩,.string ⟨⟨[76,101,102,116]⟩⟩,.string ⟨⟨[69,110,100]⟩⟩,.string ⟨⟨[72,111,109,101]⟩⟩,.string ⟨⟨[70,49]⟩⟩,.string ⟨⟨[70,50]⟩⟩,.string ⟨⟨[70,51]⟩⟩,.string ⟨⟨[70,52]⟩⟩,.string ⟨⟨[73,110,115,101,114,116]⟩⟩,.string ⟨⟨[68,101,108,101,116,101]⟩⟩,.string ⟨⟨[80,97,103,101,85,112]⟩⟩,.string ⟨⟨[80,97,103,101,68,111,119,110]⟩⟩,.string ⟨⟨[70,53]⟩⟩,.string ⟨⟨[70,54]⟩⟩,.string ⟨⟨[70,55]⟩⟩,.string ⟨⟨[70,56]⟩⟩,.string ⟨⟨[70,57]⟩⟩,.string ⟨⟨[70,49,48]⟩⟩,.string ⟨⟨[70,49,49]⟩⟩,.string ⟨⟨[70,49,50]⟩⟩,.string ⟨⟨[69,110,116,101,114]⟩⟩,.string ⟨⟨[84,97,98]⟩⟩,.string ⟨⟨[66,97,99,107]⟩⟩,.string ⟨⟨[69,115,99,97,112,101]⟩⟩]<|aC [.string ⟨⟨[67,45]⟩⟩,h 16 9]<|L4 17) (J1 1 15 32 (.ret [.string ⟨⟨[67,45,83,112,97,99,101]⟩⟩]) (Y0 1 16 127 (.lt 4 (.conv .u8) [h3 1]<|.lt 9 (.mks) [h 17 4]<|aC [.string ⟨⟨[67,45]⟩⟩,h 18 9]<|L4 19) (.fn kU [h3 1] 1<|aC [.string ⟨⟨[67,45,85,43]⟩⟩,h 17 9]<|L4 18)))))) (t8 2 2 10 (t8 2 1 12 (J6 1 14 1114113 (aS [h3 1,jI 1114113]<|.lt 9 (.sel) [h3 15,.string ⟨⟨[85,112]⟩⟩,.string ⟨⟨[68,111,119,110]⟩⟩,.string ⟨⟨[82,105,103,104,116]⟩⟩,.string ⟨⟨[76,101,102,116]⟩⟩,.string ⟨⟨[69,110,100]⟩⟩,.string ⟨⟨[72,111,109,101]⟩⟩,.string ⟨⟨[70,49]⟩⟩,.string ⟨⟨[70,50]⟩⟩,.string ⟨⟨[70,51]⟩⟩,.string ⟨⟨[70,52]⟩⟩,.string ⟨⟨[73,110,115,101,114,116]⟩⟩,.string ⟨⟨[68,101,108,101,116,101]⟩⟩,.string ⟨⟨[80,97,103,101,85,112]⟩⟩,.string ⟨⟨[80,97,103,101,68,111,119,110]⟩⟩,.string ⟨⟨[70,53]⟩⟩,.string ⟨⟨[70,54]⟩⟩,.string ⟨⟨[70,55]⟩⟩,.string ⟨⟨[70,56]⟩⟩,.string ⟨⟨[70,57]⟩⟩,.string ⟨⟨[70,49,48]⟩⟩,.string ⟨⟨[70,49,49]⟩⟩,.string ⟨⟨[70,49,50]⟩⟩,.string ⟨⟨[69,110,116,101,114]⟩⟩,.string ⟨⟨[84,97,98]⟩⟩,.string ⟨⟨[66,97,99,107]⟩⟩,.string ⟨⟨[69,115,99,97,112,101]⟩⟩]<|aC [.string ⟨⟨[77,45,83,45]⟩⟩,h 16 9]<|L4 17) (J1 1 15 32 (.ret [.string ⟨⟨[77,45,83,45,83,112,97,99,101]⟩⟩]) (Y0 1 16 127 (.lt 4 (.conv .u8) [h3 1]<|.lt 9 (.mks) [h 17 4]<|aC [.string ⟨⟨[77,45,83,45]⟩⟩,h 18 9]<|L4 19) (.fn kU [h3 1] 1<|aC [.string ⟨⟨[77,45,83,45,85,43]⟩⟩,h 17 9]<|L4 18)))) (J6 1 14 1114113 (aS [h3 1,jI 1114113]<|.lt 9 (.sel) [h3 15,.string ⟨⟨[85,112]⟩⟩,.string ⟨⟨[68,111,119,110]⟩⟩,.string ⟨⟨[82,105,103,104,116]⟩⟩,.string ⟨⟨[76,101,102,116]⟩⟩,.string ⟨⟨[69,110,100]⟩⟩,.string ⟨⟨[72,111,109,101]⟩⟩,.string ⟨⟨[70,49]⟩⟩,.string ⟨⟨[70,50]⟩⟩,.string ⟨⟨[70,51]⟩⟩,.string ⟨⟨[70,52]⟩⟩,.string ⟨⟨[73,110,115,101,114,116]⟩⟩,.string ⟨⟨[68,101,108,101,116,101]⟩⟩,.string ⟨⟨[80,97,103,101,85,112]⟩⟩,.string ⟨⟨[80,97,103,101,68,111,119,110]⟩⟩,.string ⟨⟨[70,53]⟩⟩,.string ⟨⟨[70,54]⟩⟩,.string ⟨⟨[70,55]⟩⟩,.string ⟨⟨[70,56]⟩⟩,.string ⟨⟨[70,57]⟩⟩,.string ⟨⟨[70,49,48]⟩⟩,.string ⟨⟨[70,49,49]⟩⟩,.string ⟨⟨[70,49,50]⟩⟩,.string ⟨⟨[69,110,116,101,114]⟩⟩,.string ⟨⟨[84,97,98]⟩⟩,.string ⟨⟨[66,97,99,107]⟩⟩,.string ⟨⟨[69,115,99,97,112,101]⟩⟩]<|aC [.string ⟨⟨[77,45]⟩⟩,h 16 9]<|L4 17) (J1 1 15 32 (.ret [.string ⟨⟨[77,45,83,112,97,99,101]⟩⟩]) (Y0 1 16 127 (.lt 4 (.conv .u8) [h3 1]<|.lt 9 (.mks) [h 17 4]<|aC [.string ⟨⟨[77,45]⟩⟩,h 18 9]<|L4 19) (.fn kU [h3 1] 1<|aC [.string ⟨⟨[77,45,85,43]⟩⟩,h 17 9]<|L4 18))))) (t8 2 1 12 (J6 1 14 1114113 (aS [h3 1,jI 1114113]<|.lt 9 (.sel) [h3 15,.string ⟨⟨[85,112]⟩⟩,.string ⟨⟨[68,111,119,110]⟩⟩,.string ⟨⟨[82,105,103,104,116]⟩⟩,.string ⟨⟨[76,101,102,116]⟩⟩,.string ⟨⟨[69,110,100]⟩⟩,.string ⟨⟨[72,111,109,101]⟩⟩,.string ⟨⟨[70,49]⟩⟩,.string ⟨⟨[70,50]⟩⟩,.string ⟨⟨[70,51]⟩⟩,.string ⟨⟨[70,52]⟩⟩,.string ⟨⟨[73,110,115,101,114,116]⟩⟩,.string ⟨⟨[68,101,108,101,116,101]⟩⟩,.string ⟨⟨[80,97,103,101,85,112]⟩⟩,.string ⟨⟨[80,97,103,101,68,111,119,110]⟩⟩,.string ⟨⟨[70,53]⟩⟩,.string ⟨⟨[70,54]⟩⟩,.string ⟨⟨[70,55]⟩⟩,.string ⟨⟨[70,56]⟩⟩,.string ⟨⟨[70,57]⟩⟩,.string ⟨⟨[70,49,48]⟩⟩,.string ⟨⟨[70,49,49]⟩⟩,.string ⟨⟨[70,49,50]⟩⟩,.string ⟨⟨[69,110,116,101,114]⟩⟩,.string ⟨⟨[84,97,98]⟩⟩,.string ⟨⟨[66,97,99,107]⟩⟩,.string ⟨⟨[69,115,99,97,112,101]⟩⟩]<|aC [.string ⟨⟨[83,45]⟩⟩,h 16 9]<|L4 17) (J1 1 15 32 (.ret [.string ⟨⟨[83,45,83,112,97,99,101]⟩⟩]) (Y0 1 16 127 (.lt 4 (.conv .u8) [h3 1]<|.lt 9 (.mks) [h 17 4]<|aC [.string ⟨⟨[83,45]⟩⟩,h 18 9]<|L4 19) (.fn kU [h3 1] 1<|aC [.string ⟨⟨[83,45,85,43]⟩⟩,h 17 9]<|L4 18)))) (J6 1 14 1114113 (aS [h3 1,jI 1114113]<|.lt 9 (.sel) [h3 15,.string ⟨⟨[85,112]⟩⟩,.string ⟨⟨[68,111,119,110]⟩⟩,.string ⟨⟨[82,105,103,104,116]⟩⟩,.string ⟨⟨[76,101,102,116]⟩⟩,.string ⟨⟨[69,110,100]⟩⟩,.string ⟨⟨[72,111,109,101]⟩⟩,.string ⟨⟨[70,49]⟩⟩,.string ⟨⟨[70,50]⟩⟩,.string ⟨⟨[70,51]⟩⟩,.string ⟨⟨[70,52]⟩⟩,.string ⟨⟨[73,110,115,101,114,116]⟩⟩,.string ⟨⟨[68,101,108,101,116,101]⟩⟩,.string ⟨⟨[80,97,103,101,85,112]⟩⟩,.string ⟨⟨[80,97,103,101,68,111,119,110]⟩⟩,.string ⟨⟨[70,53]⟩⟩,.string ⟨⟨[70,54]⟩⟩,.string ⟨⟨[70,55]⟩⟩,.string ⟨⟨[70,56]⟩⟩,.string ⟨⟨[70,57]⟩⟩,.string ⟨⟨[70,49,48]⟩⟩,.string ⟨⟨[70,49,49]⟩⟩,.string ⟨⟨[70,49,50]⟩⟩,.string ⟨⟨[69,110,116,101,114]⟩⟩,.string ⟨⟨[84,97,98]⟩⟩,.string ⟨⟨[66,97,99,107]⟩⟩,.string ⟨⟨[69,115,99,97,112,101]⟩⟩]<|aC [.string ⟨⟨[]⟩⟩,h 16 9]<|L4 17) (J1 1 15 32 (.ret [.string ⟨⟨[83,112,97,99,101]⟩⟩]) (Y0 1 16 127 (.lt 4 (.conv .u8) [h3 1]<|.lt 9 (.mks) [h 17 4]<|aC [.string ⟨⟨[]⟩⟩,h 18 9]<|L4 19) (.fn kU [h3 1] 1<|aC [.string ⟨⟨[85,43]⟩⟩,h 17 9]<|L4 18))))))
def A0o{G}(n:K4 G):L6 prog G 49 [.a [3,3,3,3,3,3,3,9]] oV [.s 9]:=by
 refine F3 (d:=60) A6f (cxg (B3O.2 n) .nil) n ⟨f49,_,func49,rfl⟩ C9 C9 ?_;intro us outs f;unfold oV at f;split at f
 .skip;rename_i k c m w b r cl t;split at f
  .rename_i o;cases f;have q:=RI c;unfold cR at o;have h:=HP c;have A:=A1e (c-1114113).toNat;unfold A6f;refine w0 (.cons 7 _ (.cons 6 _ (.cons 5 _ (.cons 4 _ (.cons 3 _ (.cons 2 _ (.cons 1 _ (.cons 0 _ (.nil))))))))) ?_;repeat (first|(refine w7 [.str _] ?_;rotate_left)|refine w4 (fun g=>?_) fun g=>?_|refine w1 (.bin .add) (e:=AW _ _ (by simp only[B7,C8,J3,iB,E7];omega)) (k':=?_)|refine OO ?_|refine yJ ?_|refine qS ?_|refine jE ?_|refine jD ?_|refine w1 (.sel) (e:=IA nmL A2 (by show _<((26:Nat):Int);omega)) (k':=?_)|refine eH ?_|refine aK ?_|refine w1 (.mks) (e:=pW [_] (by simp only[B3,K5,or_false,forall_eq_or_imp,forall_eq];omega)) (k':=?_)|refine w31 kU (e:=A5H _ A2) (k':=?_)|refine wT ?_|refine w1 (.bin .and) (e:=VE _) (k':=?_)|refine w1 (.bin .and) (e:=VD _) (k':=?_)|refine w1 (.bin .and) (e:=ID _) (k':=?_))
   all_goals
    refine E1 (fun z=>[U.str z]) ?_;unfold N2;first|rw[A8 (show m / 4%2*4=0 by omega)]|rw[A6 (show ¬m / 4%2*4=0 by omega)]
    first|rw[A8 (show m / 2%2*2=0 by omega)]|rw[A6 (show ¬m / 2%2*2=0 by omega)]
    first|rw[A8 (show m / 1%2*1=0 by omega)]|rw[A6 (show ¬m / 1%2*1=0 by omega)]
    show _=_++(_++(_++j7 c));first
    | (rw[YC A2];first|done|rfl)
    | (rw[YD A2];first|done|rfl)
    | (rw[YE A2 A2 A2];first|done|rfl)
    | (rw[CT A2 A2 A2];first|done|rfl)
  .cases f
 .cases f
noncomputable def B35:O9:=⟨_,fun b=>(.cons (A2D b) (.cons (A7N b) .nil))⟩
def A8x:List U->Option (Nat×List U)
 | [.int .i64 k,.int .i64 c,.int .i64 m,.int .i64 w,.int .i64 b,.int .i64 r,.int .i64 cl,.str t]=>if -9223372036854775808<=m/\m<=9223372036854775807/\(t.length:Int)<=140737488351232 then some (0,[.str (zQ (k,c,m,w,b,r,cl,t)),.int .i64 (mA (k,c,m,w,b,r,cl,t))])else none
 | _=>none
def A8w:Tr:=.fn sI [h3 0,h3 1,h3 2,h3 3,h3 4,h3 5,h3 6,h 7 9] 1<|u5 8 9 0 (.ret [.string ⟨⟨[]⟩⟩,h3 8]) (u5 0 10 1 (.ret [.string ⟨⟨[]⟩⟩,jI 2]) (.fn zR [h3 0,h3 1,h3 2,h3 3,h3 4,h3 5,h3 6,h 7 9] 1<|.ret [h 11 9,jI 0]))
def B4H{G}(n:K4 G):L6 prog G 18 [.a [3,3,3,3,3,3,3,9]] A8x [.s 9,.s 3]:=by
 refine F3 (d:=60) A8w (cxg (B35.2 n) .nil) n ⟨f18,_,func18,rfl⟩ C9 C9 ?_;intro us outs f;unfold A8x at f;split at f
 .skip;rename_i k c m w b r cl t;split at f
  .rename_i o;cases f;unfold A8w;refine w0 (.cons 7 _ (.cons 6 _ (.cons 5 _ (.cons 4 _ (.cons 3 _ (.cons 2 _ (.cons 1 _ (.cons 0 _ (.nil))))))))) ?_;repeat (first|(refine w7 [.str _,.int .i64 _] ?_;rotate_left)|refine wT ?_|refine w4 (fun g=>?_) fun g=>?_|refine w31 sI (e:=HI _ _ _ _ _ _ _ _ o) (k':=?_)|refine w31 zR (e:=TP _ _ _ _ _ _ _ _ (B1Z (x:=(k,c,m,w,b,r,cl,t)) ‹_› ‹_›)) (k':=?_))
   all_goals
    first
    | exact B1Y (x:=(k,c,m,w,b,r,cl,t)) ‹_›
    | exact B1X (x:=(k,c,m,w,b,r,cl,t)) ‹_› ‹_›
    | exact B1W (x:=(k,c,m,w,b,r,cl,t)) ‹_› ‹_›
  .cases f
 .cases f
def niF(s:B0)(a:B0):Bool:=decide (a=s)
def hD(b:UInt8):Int:=if 48<=b.toNat/\b.toNat<=57 then b.toNat-48 else if 65<=b.toNat/\b.toNat<=70 then b.toNat-55 else -1
def hR:B0->Int->Option Int
 | [],n=>some n
 | b::l,n=>if hD b<0 then none else hR l (16*n+hD b)
def hE(s:B0)(i n:Int):Option Unit:=match hR (s.drop i.toNat) n with
 | some _=>none
 | none=>some ()
def hV(s:B0)(i n:Int):Int:=(hR (s.drop i.toNat) n).getD 0
def B2L{n:Int}(h0:0<=i)(h1:i<(s.length:Int)):hR (s.drop i.toNat) n=if hD (s.getD i.toNat 0)<0 then none else hR (s.drop (i+1).toNat) (16*n+hD (s.getD i.toNat 0)):=by
 rw[R5 s h0 h1];rfl
def B5b(b:UInt8):((48<=(b.toNat:Int)/\(b.toNat:Int)<=57)/\hD b=b.toNat-48)∨(¬(48<=(b.toNat:Int)/\(b.toNat:Int)<=57)/\(65<=(b.toNat:Int)/\(b.toNat:Int)<=70)/\hD b=b.toNat-55)∨(¬(48<=(b.toNat:Int)/\(b.toNat:Int)<=57)/\¬(65<=(b.toNat:Int)/\(b.toNat:Int)<=70)/\hD b = -1):=by
 unfold hD
 (repeat' split)<;>omega
def B5T{n:Int}(h0:0<=i)(h1:i<(s.length:Int))(b:hD (s.getD i.toNat 0)=d)(c:0<=d):hE s i n=hE s (i+1) (16*n+d)/\hV s i n=hV s (i+1) (16*n+d):=by
 unfold hE hV;rw[B2L h0 h1,b,A6 A2];exact⟨rfl,rfl⟩
def B5U{n:Int}(h0:0<=i)(h1:i<(s.length:Int))(b:hD (s.getD i.toNat 0)<0):hE s i n=some ():=by
 unfold hE;rw[B2L h0 h1,A8 b]
def B5V{n:Int}(h1:(s.length:Int)<=i):hE s i n=none/\hV s i n=n:=by
 unfold hE hV;rw[bJ s h1];exact⟨rfl,rfl⟩
def p16(h0:2<=i)(h1:i<=8):(16:Int) ^ (i-2).toNat<=16777216/\(16:Int) ^ (i+1-2).toNat=16*16 ^ (i-2).toNat:=by
 refine⟨?_,by rw[show(i+1-2).toNat=(i-2).toNat+1 by omega,Int.pow_succ,Int.mul_comm]⟩;have:((List.range 7).all fun k=>decide ((16:Int) ^ k<=16777216))=true:=E3;exact G5 (D5.1 this (i-2).toNat (T7.2 A2))
def tI(s:B0):Int:=match H8 (niF s) nmL 0 with
 | some j=>1114113+j
 | none=>if s=[83,112,97,99,101]then 32 else if s.length=1 then((s.getD 0 0).toNat:Int)else if s.length<6∨8<s.length∨s.take 2≠[85,43]then -1 else(hR (s.drop 2) 0).getD (-1)
def B2q(h:H8 (niF s) nmL 0=some j):tI s=1114113+j:=by unfold tI;rw[h]
def IL(h:H8 (niF s) nmL 0=none):tI s=if s=[83,112,97,99,101]then 32 else if s.length=1 then((s.getD 0 0).toNat:Int)else if s.length<6∨8<s.length∨s.take 2≠[85,43]then -1 else(hR (s.drop 2) 0).getD (-1):=by unfold tI;rw[h]
def A7K(h:a=s):niF s a=true:=H5 h
def TO(h:¬a=s):niF s a=false:=D4 h
def B5a(h:hE s 2 0=none):(hR (s.drop 2) 0).getD (-1)=hV s 2 0:=by
 unfold hE at h;unfold hV;show _=(hR (s.drop 2) 0).getD 0;cases e:hR (s.drop 2) 0 with
 | some v=>rfl
 | none=>rw[show s.drop (2:Int).toNat=s.drop 2 from rfl,e]at h;cases h
def B5Z{u:Unit}(h:hE s 2 0=some u):(hR (s.drop 2) 0).getD (-1) = -1:=by
 unfold hE at h;cases e:hR (s.drop 2) 0 with
 | some v=>rw[show s.drop (2:Int).toNat=s.drop 2 from rfl,e]at h;cases h
 | none=>rfl
noncomputable def B3d:O9:=⟨_,fun b=>.nil⟩
def zP:List U->Option (Nat×List U)
 | [.str s,.int .i64 i]=>if 0<=i/\i<=26/\(s.length:Int)<=140737488351232 then R9 (H8 (niF s) (nmL.drop i.toNat) i) [.str s] (fun j=>[.int .i64 (1114113+j)])else none
 | _=>none
def sD(s:B0)(i:Int)(b:0<=i/\i<=26/\(s.length:Int)<=140737488351232):zP [.str s,.int .i64 i]=R9 (H8 (niF s) (nmL.drop i.toNat) i) [.str s] (fun j=>[.int .i64 (1114113+j)]):=A8 b
def A7J:R1:=⟨[(0,h 0 9),(3,.pointer (some ⟨16,0,none⟩)),(4,h 1 3)],[(16,.cells 128 [.string ⟨⟨[85,112]⟩⟩,.string ⟨⟨[68,111,119,110]⟩⟩,.string ⟨⟨[82,105,103,104,116]⟩⟩,.string ⟨⟨[76,101,102,116]⟩⟩,.string ⟨⟨[69,110,100]⟩⟩,.string ⟨⟨[72,111,109,101]⟩⟩,.string ⟨⟨[70,49]⟩⟩,.string ⟨⟨[70,50]⟩⟩,.string ⟨⟨[70,51]⟩⟩,.string ⟨⟨[70,52]⟩⟩,.string ⟨⟨[73,110,115,101,114,116]⟩⟩,.string ⟨⟨[68,101,108,101,116,101]⟩⟩,.string ⟨⟨[80,97,103,101,85,112]⟩⟩,.string ⟨⟨[80,97,103,101,68,111,119,110]⟩⟩,.string ⟨⟨[70,53]⟩⟩,.string ⟨⟨[70,54]⟩⟩,.string ⟨⟨[70,55]⟩⟩,.string ⟨⟨[70,56]⟩⟩,.string ⟨⟨[70,57]⟩⟩,.string ⟨⟨[70,49,48]⟩⟩,.string ⟨⟨[70,49,49]⟩⟩,.string ⟨⟨[70,49,50]⟩⟩,.string ⟨⟨[69,110,116,101,114]⟩⟩,.string ⟨⟨[84,97,98]⟩⟩,.string ⟨⟨[66,97,99,107]⟩⟩,.string ⟨⟨[69,115,99,97,112,101]⟩⟩])],2,[⟨.exit 0,[(0,h 0 9)],[],1⟩,⟨.ret,[(2,h 0 3)],[],1⟩]⟩
noncomputable def A1h:Code:=(f53.body).getD .skip
noncomputable def A7E:Code:=match G6 [true,true,false,true,false] A1h with|some (.loop x)=>x|_=>.skip
def A7I:f53.body=some A1h:=rfl
def A7G:G6 [true,true,false,true,false] A1h=some (.loop A7E):=C9
def A7F:Tr:=Y0 1 2 26 (aI [h3 1,jI 26]<|.br 3 (.lt 9 (.sel) [h3 1,.string ⟨⟨[85,112]⟩⟩,.string ⟨⟨[68,111,119,110]⟩⟩,.string ⟨⟨[82,105,103,104,116]⟩⟩,.string ⟨⟨[76,101,102,116]⟩⟩,.string ⟨⟨[69,110,100]⟩⟩,.string ⟨⟨[72,111,109,101]⟩⟩,.string ⟨⟨[70,49]⟩⟩,.string ⟨⟨[70,50]⟩⟩,.string ⟨⟨[70,51]⟩⟩,.string ⟨⟨[70,52]⟩⟩,.string ⟨⟨[73,110,115,101,114,116]⟩⟩,.string ⟨⟨[68,101,108,101,116,101]⟩⟩,.string ⟨⟨[80,97,103,101,85,112]⟩⟩,.string ⟨⟨[80,97,103,101,68,111,119,110]⟩⟩,.string ⟨⟨[70,53]⟩⟩,.string ⟨⟨[70,54]⟩⟩,.string ⟨⟨[70,55]⟩⟩,.string ⟨⟨[70,56]⟩⟩,.string ⟨⟨[70,57]⟩⟩,.string ⟨⟨[70,49,48]⟩⟩,.string ⟨⟨[70,49,49]⟩⟩,.string ⟨⟨[70,49,50]⟩⟩,.string ⟨⟨[69,110,116,101,114]⟩⟩,.string ⟨⟨[84,97,98]⟩⟩,.string ⟨⟨[66,97,99,107]⟩⟩,.string ⟨⟨[69,115,99,97,112,101]⟩⟩]<|aE [h 4 9,h 0 9]<|.br 5 (aA [jI 1114113,h3 1]<|.ret [jI 1,h3 6]) (aA [h3 1,jI 1]<|.ret [jI (-1),h 0 9,h3 6])) (.no)) (.ret [jI 0,h 0 9])
def A7H:List U->Nat
 | [.str s,.int .i64 i]=>(26-i).toNat
 | _=>0
def A1g(s:B0)(i:Int):A7H [.str s,.int .i64 i]=(26-i).toNat:=rfl
def B1b{G}(k:K4 G):∀ (E:Nat->U) (base:Nat),@Q1 ⟨E,G⟩ prog base gl f53.ntmps A7E (M1 prog gl n0 17 A7J zP):=by
 refine R4 (dep:=60) (f:=53) (n0:=n0) (nB:=17) (H0:=H0) A7H A7F (cxg (B3d.2 k) .nil) k func53 A7I A7G C9 C9 C9 ?_;intro us d outs b;have n:=b;unfold zP at b;split at b
 .skip;rename_i s i;split at b
  .rename_i c;clear b n;have o:(nmL.length:Int)=26:=rfl;refine⟨rfl,?_⟩;unfold A7F;refine w0 (.cons 1 _ (.cons 0 _ (.nil))) ?_;repeat (first|refine bW ?_|refine W4 ?_|refine w4 (fun g=>?_) fun g=>?_|refine aK ?_|refine A88 ?_|refine w1 (.sel) (e:=IA nmL A2 (by show _<((26:Nat):Int);omega)) (k':=?_)|refine yK ?_|(refine w7 [.int .i64 _,.int .i64 _] ?_;rotate_left)|(refine w7 [.int .i64 _,.str _,.int .i64 _] ?_;rotate_left)|(refine w8 ?_;first|omega)|(refine w7 [.int .i64 _,.str _] ?_;rotate_left))
   all_goals first
    | refine M2 ?_ ?_
      .rw[sD s (i+1) ⟨A2,A2,c.2.2⟩,sD s i c,W1 (i:=i) c.1 A2 (TO ‹_›)]
      .rw[A1g,A1g];omega
    | refine H7 (d:=0) ?_
      rw[sD s i c,Z2 A2];rfl
    | refine H7 (d:=1) ?_
      rw[sD s i c,Z1 (i:=i) c.1 A2 (A7K ‹_›)];rfl
  .cases b
 .cases b
noncomputable def A8v:List LpE:=(53,([true,true,false,true,false],M1 prog gl n0 17 A7J zP))::[]
def OE{G}(b:K4 G):W5 prog G gl A8v:=.cons func53 A7I A7G (B1b b) .nil
noncomputable def B3s:O9:=⟨_,fun b=>.nil⟩
def sS:List U->Option (Nat×List U)
 | [.str s,.int .i64 n,.int .i64 i]=>if 2<=i/\i<=(s.length:Int)/\(s.length:Int)<=8/\0<=n/\n<16 ^ (i-2).toNat then R9 (hE s i n) [.int .i64 (hV s i n)] (fun _=>[])else none
 | _=>none
def sR(s:B0)(n:Int)(i:Int)(b:2<=i/\i<=(s.length:Int)/\(s.length:Int)<=8/\0<=n/\n<16 ^ (i-2).toNat):sS [.str s,.int .i64 n,.int .i64 i]=R9 (hE s i n) [.int .i64 (hV s i n)] (fun _=>[]):=A8 b
def A75:R1:=⟨[(0,h 0 9),(5,h 1 3),(6,h 2 3)],[],3,[⟨.exit 2,[(5,h 0 3)],[],1⟩,⟨.ret,[(2,.int .i64 (-1))],[],0⟩]⟩
noncomputable def A2k:Code:=(f53.body).getD .skip
noncomputable def A70:Code:=match G6 [true,true,true,true,true,true,true,false,true,false] A2k with|some (.loop x)=>x|_=>.skip
def A74:f53.body=some A2k:=rfl
def A72:G6 [true,true,true,true,true,true,true,false,true,false] A2k=some (.loop A70):=C9
def A2i(n:Nat):Tr:=.lt 4 (.idx) [h 0 9,h3 2]<|aH [h n 4,.int .u8 (65)]<|.br (n+1) (.lt 4 (.idx) [h 0 9,h3 2]<|aQ [h (n+2) 4,.int .u8 (70)]<|.br (n+3) (.lt 3 (.bin .mul) [jI 16,h3 1]<|.lt 4 (.idx) [h 0 9,h3 2]<|.lt 4 (.bin .sub) [h (n+5) 4,.int .u8 (65)]<|.lt 3 (.conv .i64) [h (n+6) 4]<|aA [h3 (n+4),h3 (n+7)]<|aA [h3 (n+8),jI 10]<|aA [h3 2,jI 1]<|.ret [jI (-1),h 0 9,h3 (n+9),h3 (n+10)]) (I2 1)) (I2 1)
def A71:Tr:=nM 2 0 3 (.lt 4 (.idx) [h 0 9,h3 2]<|aH [h 5 4,.int .u8 (48)]<|.br 6 (.lt 4 (.idx) [h 0 9,h3 2]<|aQ [h 7 4,.int .u8 (57)]<|.br 8 (.lt 3 (.bin .mul) [jI 16,h3 1]<|.lt 4 (.idx) [h 0 9,h3 2]<|.lt 4 (.bin .sub) [h 10 4,.int .u8 (48)]<|.lt 3 (.conv .i64) [h 11 4]<|aA [h3 9,h3 12]<|aA [h3 2,jI 1]<|.ret [jI (-1),h 0 9,h3 13,h3 14]) (A2i 9)) (A2i 7)) (.ret [jI 0,h3 1])
def A73:List U->Nat
 | [.str s,.int .i64 n,.int .i64 i]=>((s.length:Int)-i).toNat
 | _=>0
def A2j(s:B0)(n:Int)(i:Int):A73 [.str s,.int .i64 n,.int .i64 i]=((s.length:Int)-i).toNat:=rfl
def B2F{G}(c:K4 G):∀ (E:Nat->U) (base:Nat),@Q1 ⟨E,G⟩ prog base gl f53.ntmps A70 (M1 prog gl n0 18 A75 sS):=by
 refine R4 (dep:=60) (f:=53) (n0:=n0) (nB:=18) (H0:=H0) A73 A71 (cxg (B3s.2 c) (OE c)) c func53 A74 A72 C9 C9 C9 ?_;intro us d outs b;have o:=b;unfold sS at b;split at b
 .skip;rename_i s n i;split at b
  .rename_i k;clear b o;have w:=p16 k.1 A2;have A:=B5b (s.getD i.toNat 0);have h:=FX (s.getD i.toNat 0);refine⟨rfl,?_⟩;unfold A71;refine w0 (.cons 2 _ (.cons 1 _ (.cons 0 _ (.nil)))) ?_;repeat (first|refine bW ?_|refine W4 ?_|refine w1 (.idx) (e:=uS _ _ _ A2 A2) (k':=?_)|refine w4 (fun g=>?_) fun g=>?_|refine B0w ?_|refine A6B ?_|refine OO ?_|refine yJ ?_|refine qS ?_|refine jE ?_|(refine w7 [.int .i64 _] ?_;rotate_left)|refine jD ?_|refine pF ?_|(refine w7 [.int .i64 _,.str _,.int .i64 _,.int .i64 _] ?_;rotate_left)|refine eG ?_|refine aK ?_|(refine w7 [.int .i64 _,.int .i64 _] ?_;rotate_left))
   all_goals first
    | refine M2 ?_ ?_
      .have q:∀ d,hD (s.getD i.toNat 0)=d->0<=d->d<16->sS [.str s,.int .i64 (16*n+d),.int .i64 (i+1)]=sS [.str s,.int .i64 n,.int .i64 i]:=fun d t r h3=>by
        have hw:=B5T (n:=n) A2 A2 t r;rw[sR s _ (i+1) ⟨A2,A2,k.2.2.1,A2,A2⟩,sR s n i k,hw.1,hw.2]
       first
       | exact q _ A2 A2 A2
       | (rw[Int.add_assoc];exact q _ A2 A2 A2)
      .rw[A2j,A2j];omega
    | refine H7 (d:=0) ?_
      have hw:=B5V (s:=s) (i:=i) (n:=n) A2;rw[sR s n i k,hw.1,hw.2];rfl
    | refine H7 (d:=1) ?_
      rw[sR s n i k,B5U (i:=i) A2 A2 A2];rfl
  .cases b
 .cases b
noncomputable def B4C:List LpE:=(53,([true,true,true,true,true,true,true,false,true,false],M1 prog gl n0 18 A75 sS))::A8v
def A37{G}(b:K4 G):W5 prog G gl B4C:=.cons func53 A74 A72 (B2F b) (OE b)
noncomputable def B3X:O9:=⟨_,fun b=>.nil⟩
def DS:List U->Option (Nat×List U)
 | [.str s]=>if(s.length:Int)<=140737488351232 then some (0,[.int .i64 (tI s)])else none
 | _=>none
def A4j(s:B0)(b:(s.length:Int)<=140737488351232):DS [.str s]=some (0,[.int .i64 (tI s)]):=A8 b
def A6y:Tr:=.lp zP [h 0 9,jI 0] 0 1 (aE [h 1 9,.string ⟨⟨[83,112,97,99,101]⟩⟩]<|.br 2 (I2 32) (aD [h 1 9]<|J1 3 4 1 (.lt 4 (.idx) [h 1 9,jI 0]<|.lt 3 (.conv .i64) [h 5 4]<|.ret [h3 6]) (aD [h 1 9]<|Y0 5 6 6 (I2 (-1)) (r9 1 7 8 (I2 (-1)) (.lt 9 (.sub) [h 1 9,jI 0,jI 2]<|aN [h 9 9,.string ⟨⟨[85,43]⟩⟩]<|.br 10 (I2 (-1)) (.lp sS [h 1 9,jI 0,jI 2] 0 1 (.ret [h3 11]) (.lp sS [h 1 9,jI 0,jI 2] 1 0 (I2 (-1)) (.no)))))))) (.lp zP [h 0 9,jI 0] 1 1 (.ret [h3 1]) (.no))
def B1L{G}(b:K4 G):L6 prog G 53 [.s 9] DS [.s 3]:=by
 refine F3 (d:=60) A6y (cxg (B3X.2 b) (A37 b)) b ⟨f53,_,func53,rfl⟩ C9 C9 ?_;intro us outs c;unfold DS at c;split at c
 .skip;rename_i s;split at c
  .rename_i f;cases c;have k:=FX (s.getD (0:Int).toNat 0);unfold A6y;refine w0 (.cons 0 _ (.nil)) ?_;repeat (first|(refine w7 [.int .i64 _] ?_;rotate_left)|refine w4 (fun g=>?_) fun g=>?_|refine eG ?_|refine qS ?_|refine jE ?_|(refine w6 zP (sD _ _ ⟨E3,E3,f⟩) (h0:=fun g=>?_) (h1:=fun v g=>?_);show Wk _ _ (.cons _ _ _);rotate_left;show Wk _ _ (.cons _ _ _);rotate_right)|refine yK ?_|refine eH ?_|refine w1 (.idx) (e:=uS _ _ _ A2 A2) (k':=?_)|refine aK ?_|refine oM ?_|refine w1 (.sub) (e:=t6 _ _ _ _ _ A2 A2 A2) (k':=?_)|refine OP ?_|(refine w6 sS (sR _ _ _ ⟨E3,A2,A2,E3,E3⟩) (h0:=fun g=>?_) (h1:=fun v g=>?_);show Wk _ _ (.cons _ _ _);rotate_left;skip;rotate_right))
   all_goals
    refine l0 ?_;symm;first
    | exact B2q ‹_›
    | (rw[IL ‹_›,A8 ‹_›];done)
    | (rw[IL ‹_›,A6 ‹_›,A8 A2];first|done|rfl)
    | (rw[IL ‹_›,A6 ‹_›,A6 A2,A8 (.inl A2)];done)
    | (rw[IL ‹_›,A6 ‹_›,A6 A2,A8 (.inr (.inl A2))];done)
    | (rw[IL ‹_›,A6 ‹_›,A6 A2,A8 (.inr (.inr ‹_›))];done)
    | (rw[IL ‹_›,A6 ‹_›,A6 A2,A6 (fun h=>h.elim A2 fun h=>h.elim A2 ‹_›),B5a ‹_›];done)
    | (rw[IL ‹_›,A6 ‹_›,A6 A2,A6 (fun h=>h.elim A2 fun h=>h.elim A2 ‹_›),B5Z ‹_›];done)
  .cases c
 .cases c
def stp(p:B0)(v:Int)(a:B0×Int):B0×Int:=if 2<a.1.length/\a.1.take 2=p then(a.1.drop 2,a.2+v)else a
def cA(s:B0):Xt:=(1,tI (stp [83,45] 1 (stp [77,45] 2 (stp [67,45] 4 (s,0)))).1,(stp [83,45] 1 (stp [77,45] 2 (stp [67,45] 4 (s,0)))).2,0,0,0,0,[])
def X0:Xt:=(0,0,0,0,0,0,0,[])
def X1(s:B0):Xt:=if kyP (cA s)/\N2 (cA s)=s then cA s else X0
def aO(s:B0):Int:=if kyP (cA s)/\N2 (cA s)=s then 0 else 6
def ZJ(v:Int)(h:2<(s.length:Int))(b:(s.drop (0:Int).toNat).take ((2:Int).toNat-(0:Int).toNat)=p):stp p v (s,m)=(s.drop (2:Int).toNat,m+v):=A8 ⟨by show 2<s.length;omega,b⟩
def ZL(v:Int)(h:¬2<(s.length:Int)):stp p v (s,m)=(s,m):=A6 fun k=>h (by have:2<s.length:=k.1;omega)
def ZK(v:Int)(b:¬(s.drop (0:Int).toNat).take ((2:Int).toNat-(0:Int).toNat)=p):stp p v (s,m)=(s,m):=A6 fun k=>b k.2
def l9{c a2 a3 a4 a5 g b e f:Int}(h:x=(c,a2,a3,a4,a5,g,b,a8))(k:f=e):[U.int .i64 c,.int .i64 a2,.int .i64 a3,.int .i64 a4,.int .i64 a5,.int .i64 g,.int .i64 b,.str a8,.int .i64 e]=[U.int .i64 x.1,.int .i64 x.2.1,.int .i64 x.2.2.1,.int .i64 x.2.2.2.1,.int .i64 x.2.2.2.2.1,.int .i64 x.2.2.2.2.2.1,.int .i64 x.2.2.2.2.2.2.1,.str x.2.2.2.2.2.2.2,.int .i64 f]:=by subst h k;rfl
def B1k{X:Xt}(c:cA s=X)(h1:kyP X)(b:¬N2 X≠s):X1 s=X/\aO s=0:=by
 unfold X1 aO;rw[c,A8 ⟨h1,B5.1 b⟩,A8 ⟨h1,B5.1 b⟩];exact⟨rfl,rfl⟩
def B1m{X:Xt}(b:cA s=X)(h1:¬kyP X):X1 s=X0/\aO s=6:=by
 unfold X1 aO;rw[b,A6 (fun k=>h1 k.1),A6 (fun k=>h1 k.1)];exact⟨rfl,rfl⟩
def B1l{X:Xt}(c:cA s=X)(b:N2 X≠s):X1 s=X0/\aO s=6:=by
 unfold X1 aO;rw[c,A6 (fun k=>b k.2),A6 (fun k=>b k.2)];exact⟨rfl,rfl⟩
noncomputable def B0j:O9:=⟨_,fun b=>(.cons (B1L b) (.cons (KP b) (.cons (A0o b) .nil)))⟩
def pL:List U->Option (Nat×List U)
 | [.str s]=>if(s.length:Int)<=140737488351232 then some (0,[.int .i64 ((X1 s).1),.int .i64 ((X1 s).2.1),.int .i64 ((X1 s).2.2.1),.int .i64 ((X1 s).2.2.2.1),.int .i64 ((X1 s).2.2.2.2.1),.int .i64 ((X1 s).2.2.2.2.2.1),.int .i64 ((X1 s).2.2.2.2.2.2.1),.str ((X1 s).2.2.2.2.2.2.2),.int .i64 (aO s)])else none
 | _=>none
def A0z(s:B0)(b:(s.length:Int)<=140737488351232):pL [.str s]=some (0,[.int .i64 ((X1 s).1),.int .i64 ((X1 s).2.1),.int .i64 ((X1 s).2.2.1),.int .i64 ((X1 s).2.2.2.1),.int .i64 ((X1 s).2.2.2.2.1),.int .i64 ((X1 s).2.2.2.2.2.1),.int .i64 ((X1 s).2.2.2.2.2.2.1),.str ((X1 s).2.2.2.2.2.2.2),.int .i64 (aO s)]):=A8 b
def J8:Tr:=.ret [jI 0,jI 0,jI 0,jI 0,jI 0,jI 0,jI 0,.string ⟨⟨[]⟩⟩,jI 6]
def S1(a0:Int)(b:Nat):Tr:=.ret [jI 1,h3 b,jI a0,jI 0,jI 0,jI 0,jI 0,.string ⟨⟨[]⟩⟩,jI 0]
def eE(a0:Int)(b:Nat)(c e:Tr):Tr:=.fn oV [jI 1,h3 b,jI a0,jI 0,jI 0,jI 0,jI 0,.string ⟨⟨[]⟩⟩] 1<|aN [h (b+3) 9,h 0 9]<|.br (b+4) c e
def qO(a0:Int)(b:Nat)(a2:Nat)(e c:Tr):Tr:=.fn DS [h a2 9] 1<|.fn oW [jI 1,h3 b,jI a0,jI 0,jI 0,jI 0,jI 0,.string ⟨⟨[]⟩⟩] 1<|aX [h (b+1) 8]<|.br (b+2) e c
def ST(n:Nat):Tr:=qO 6 n 10 J8 (eE 6 n J8 (S1 6 n))
def SS(n:Nat):Tr:=qO 4 n 5 J8 (eE 4 n J8 (S1 4 n))
def xH(a0:Int)(b:Nat)(a2:Nat)(e c:Tr):Tr:=.lt 9 (.sub1) [h b 9,jI 2]<|.fn DS [h a2 9] 1<|.fn oW [jI 1,h3 (a2+1),jI a0,jI 0,jI 0,jI 0,jI 0,.string ⟨⟨[]⟩⟩] 1<|aX [h (a2+2) 8]<|.br (a2+3) e c
def xI(a0:Nat)(b:Nat)(c e:Tr):Tr:=.lt 9 (.sub) [h a0 9,jI 0,jI 2]<|aE [h b 9,.string ⟨⟨[83,45]⟩⟩]<|.br (b+1) c e
def SR(n:Nat):Tr:=r9 5 n 2 (xI 5 (n+2) (xH 5 5 (n+4) J8 (eE 5 (n+5) J8 (S1 5 (n+5)))) (SS (n+4))) (SS (n+2))
def SQ(n:Nat):Tr:=qO 0 n 0 J8 (eE 0 n J8 (S1 0 n))
def SP(n:Nat):Tr:=r9 0 n 2 (xI 0 (n+2) (xH 1 0 (n+4) J8 (eE 1 (n+5) J8 (S1 1 (n+5)))) (SQ (n+4))) (SQ (n+2))
def SO(n:Nat):Tr:=r9 0 n 2 (.lt 9 (.sub) [h 0 9,jI 0,jI 2]<|aE [h (n+2) 9,.string ⟨⟨[77,45]⟩⟩]<|.br (n+3) (.lt 9 (.sub1) [h 0 9,jI 2]<|r9 (n+4) (n+5) 2 (xI (n+4) (n+7) (xH 3 (n+4) (n+9) J8 (eE 3 (n+10) J8 (S1 3 (n+10)))) (qO 2 (n+9) (n+4) J8 (eE 2 (n+9) J8 (S1 2 (n+9))))) (qO 2 (n+7) (n+4) J8 (eE 2 (n+7) J8 (S1 2 (n+7))))) (SP (n+4))) (SP (n+2))
def A0y:Tr:=r9 0 1 2 (.lt 9 (.sub) [h 0 9,jI 0,jI 2]<|aE [h 3 9,.string ⟨⟨[67,45]⟩⟩]<|.br 4 (.lt 9 (.sub1) [h 0 9,jI 2]<|r9 5 6 2 (.lt 9 (.sub) [h 5 9,jI 0,jI 2]<|aE [h 8 9,.string ⟨⟨[77,45]⟩⟩]<|.br 9 (.lt 9 (.sub1) [h 5 9,jI 2]<|r9 10 11 2 (xI 10 13 (xH 7 10 15 J8 (eE 7 16 J8 (S1 7 16))) (ST 15)) (ST 13)) (SR 10)) (SR 8)) (SO 5)) (SO 3)
def A00{G}(f:K4 G):L6 prog G 21 [.s 9] pL [.a [3,3,3,3,3,3,3,9],.s 3]:=by
 refine F3 (d:=60) A0y (cxg (B0j.2 f) .nil) f ⟨f21,_,func21,rfl⟩ C9 C9 ?_;intro us outs c;unfold pL at c;split at c
 .skip;rename_i s;split at c
  .rename_i k;cases c;unfold A0y;refine w0 (.cons 0 _ (.nil)) ?_;repeat (first|refine w4 (fun g=>?_) fun g=>?_|refine w4B (fun g=>?_) fun g=>?_|(refine w7 [.int .i64 _,.int .i64 _,.int .i64 _,.int .i64 _,.int .i64 _,.int .i64 _,.int .i64 _,.str _,.int .i64 _] ?_;rotate_left)|refine Z5 ?_|refine lF ?_|refine w31 DS (e:=A4j _ (by first|omega|(simp only[D7];omega))) (k':=?_)|refine w31 oW (e:=GK _ _ _ _ _ _ _ _ ⟨E3,E3,A12 (m:=140737488351232) rfl⟩) (k':=?_)|refine w31 oV (e:=GJ _ _ _ _ _ _ _ _ (wA (x:=(1,tI _,_,0,0,0,0,[])) (B5.1 ‹_›))) (k':=?_)|refine OP ?_|refine eG ?_|refine oM ?_|refine w1 (.sub) (e:=t6 _ _ _ _ _ A2 A2 (by first|omega|(simp only[D7]at *;omega))) (k':=?_)|refine yK ?_|refine w1 (.sub1) (e:=cU _ _ _ A2 (by first|omega|(simp only[D7];omega))) (k':=?_))
   all_goals
    first
    | (exfalso;omega)
    | (have b:cA s=cA s:=rfl
       conv at b=>rhs;unfold cA
       first|rw[ZJ (p:=[67,45]) 4 ‹_› ‹_›]at b|rw[ZL (p:=[67,45]) 4 ‹_›]at b|rw[ZK (p:=[67,45]) 4 ‹_›]at b
       first|rw[ZJ (p:=[77,45]) 2 ‹_› ‹_›]at b|rw[ZL (p:=[77,45]) 2 ‹_›]at b|rw[ZK (p:=[77,45]) 2 ‹_›]at b
       first|rw[ZJ (p:=[83,45]) 1 ‹_› ‹_›]at b|rw[ZL (p:=[83,45]) 1 ‹_›]at b|rw[ZK (p:=[83,45]) 1 ‹_›]at b
       first
       | exact l9 (B1m b ‹_›).1 (B1m b ‹_›).2
       | exact l9 (B1l b ‹_›).1 (B1l b ‹_›).2
       | exact l9 (B1k b (B5.1 ‹_›) ‹_›).1 (B1k b (B5.1 ‹_›) ‹_›).2
)
  .cases c
 .cases c
noncomputable def B3n:O9:=⟨_,fun b=>(.cons (A1d b) .nil)⟩
def sL:List U->Option (Nat×List U)
 | [u_l,.str v,.int .i64 n,.int .i64 i]=>(P4 rS u_l).bind fun l=>if n=((el l).length:Int)/\0<=i/\i<=n/\n<=140737488351232 then R9 (H8 (niF v) ((el l).drop i.toNat) i) [] (fun j=>[.int .i64 j])else none
 | _=>none
def sK(l:(Option (List B0)))(v:B0)(n:Int)(i:Int)(b:n=((el l).length:Int)/\0<=i/\i<=n/\n<=140737488351232):sL [E8 rS l,.str v,.int .i64 n,.int .i64 i]=R9 (H8 (niF v) ((el l).drop i.toNat) i) [] (fun j=>[.int .i64 j]):=by
 simp only[sL,I0,F1];exact A8 b
def A2R:R1:=⟨[(0,dat 17 0 11),(1,h 1 9),(7,h 2 3),(8,h 3 3)],[(17,.frz)],4,[⟨.exit 0,[],[],0⟩,⟨.ret,[(4,h 0 3)],[],1⟩]⟩
noncomputable def A2S:Code:=(f88.body).getD .skip
noncomputable def A7m:Code:=match G6 [true,false,true,false] A2S with|some (.loop x)=>x|_=>.skip
def A2Q:f88.body=some A2S:=rfl
def A2N:G6 [true,false,true,false] A2S=some (.loop A7m):=C9
def A7n:Tr:=Z6 3 2 4 (cQ 0 3 5 (.lt 9 (.get 1 0) [h 0 11,h3 3]<|aE [h 1 9,h 6 9]<|.br 7 (.ret [jI 1,h3 3]) (aA [h3 3,jI 1]<|.ret [jI (-1),h 0 11,h 1 9,h3 2,h3 8]))) (I2 0)
def A2P:List U->Nat
 | [u_l,.str v,.int .i64 n,.int .i64 i]=>(match P4 rS u_l with|some l=>(n-i).toNat|none=>0)
 | _=>0
def A2O(l:(Option (List B0)))(v:B0)(n:Int)(i:Int):A2P [E8 rS l,.str v,.int .i64 n,.int .i64 i]=(n-i).toNat:=by
 simp only[A2P,I0]
def A7o{G}(o:K4 G):∀ (E:Nat->U) (base:Nat),@Q1 ⟨E,G⟩ prog base gl f88.ntmps A7m (M1 prog gl n0 18 A2R sL):=by
 refine R4 (dep:=60) (f:=88) (n0:=n0) (nB:=18) (H0:=H0) A2P A7n (cxg (B3n.2 o) .nil) o func88 A2Q A2N C9 C9 C9 ?_;intro us d outs c;have r:=c;unfold sL at c;split at c
 .skip;rename_i t v n i;have q:=C3.1 c;clear c;obtain⟨l,b,c⟩:=q;replace b:=L1 b;subst b;split at c
  .rename_i k;clear c r;refine⟨rfl,?_⟩;unfold A7n;refine w0 (.cons 3 _ (.cons 2 _ (.cons 1 _ (.cons 0 _ (.nil))))) ?_;repeat (first|refine w4 (fun g=>?_) fun g=>?_|refine bW ?_|refine W4 ?_|refine aK ?_|refine dV ?_|refine w1 (.get 1 0) (u:=.str _) (e:=E5 rfl A2 A2 rfl) (k':=?_)|refine yK ?_|(refine w7 [.int .i64 _,.int .i64 _] ?_;rotate_left)|(refine w7 [.int .i64 _,E8 rS _,.str _,.int .i64 _,.int .i64 _] ?_;rotate_left)|(refine w8 ?_;first|omega)|(refine w7 [.int .i64 _] ?_;rotate_left))
   all_goals first
    | refine M2 ?_ ?_
      .rw[sK l v n (i+1) ⟨k.1,A2,A2,k.2.2.2⟩,sK l v n i k,W1 (i:=i) k.2.1 A2 (TO (fun h=>(by assumption:¬_=_) (by first|exact h|exact h.symm)))]
      .rw[A2O,A2O];omega
    | refine H7 (d:=0) ?_
      rw[sK l v n i k,Z2 A2];rfl
    | refine H7 (d:=1) ?_
      rw[sK l v n i k,Z1 (i:=i) k.2.1 A2 (A7K (by first|assumption|(symm;assumption)))];rfl
  .cases c
 .cases c
noncomputable def A33:List LpE:=[(88,([true,false,true,false],M1 prog gl n0 18 A2R sL))]
def wP{G}(b:K4 G):W5 prog G gl A33:=(.cons func88 A2Q A2N (A7o b) .nil)
def zU(c:Int):Int:=if c / 32%2=1 then c else c+32
def A9r{c:Int}(h0:0<=c)(h1:c<=255):IntKind.u8.wrap ((BitVec.ofInt IntKind.u8.bits c ||| BitVec.ofInt IntKind.u8.bits 32).toNat)=zU c:=by
 obtain⟨n,rfl⟩:∃ n:Nat,c=n:=⟨c.toNat,A2⟩;have b:n<256:=A2;have:((List.range 256).all fun n=>decide (IntKind.u8.wrap ((BitVec.ofInt IntKind.u8.bits (n:Int) ||| BitVec.ofInt IntKind.u8.bits 32).toNat)=zU n))=true:=C9;exact G5 (D5.1 this n (T7.2 b))
noncomputable def B3f:O9:=⟨_,fun b=>.nil⟩
def zT:List U->Option (Nat×List U)
 | [.int .u8 c]=>if 0<=c/\c<=255 then some (0,[.int .u8 (zU c)])else none
 | _=>none
def A44(c:Int)(b:0<=c/\c<=255):zT [.int .u8 c]=some (0,[.int .u8 (zU c)]):=A8 b
def A7P:Tr:=.lt 4 (.bin .or) [h 0 4,.int .u8 (32)]<|.ret [h 1 4]
def A7Q{G}(b:K4 G):L6 prog G 126 [.s 4] zT [.s 4]:=by
 refine F3 (d:=60) A7P (cxg (B3f.2 b) (wP b)) b ⟨f126,_,func126,rfl⟩ C9 C9 ?_;intro us outs f;unfold zT at f;split at f
 .skip;rename_i c;split at f
  .rename_i g;cases f;unfold A7P;refine w0 (.cons 0 _ (.nil)) ?_;repeat (first|refine w1 (.bin .or) (e:=QX 8 256 128 E3 E3 A2 A2 A2 A2 A2) (k':=?_)|refine w1 (.bin .or) (e:=A21 8 256 128 E3 E3 A2 A2 A2 A2 A2) (k':=?_)|refine w1 (.bin .or) (e:=QX 16 65536 128 E3 E3 A2 A2 A2 A2 A2) (k':=?_)|refine w1 (.bin .or) (e:=A21 16 65536 128 E3 E3 A2 A2 A2 A2 A2) (k':=?_)|refine w1 (.bin .or) (e:=VA _ _ _) (k':=?_)|(refine w7 [.int .u8 _] ?_;rotate_left))
   all_goals
    exact E1 (fun z=>[U.int .u8 z]) (A9r g.1 g.2)
  .cases f
 .cases f
def FA:List U->Option (Nat×List U)
 | [.str s]=>if(s.length:Int)<=140737488351232 then some (0,[.str (s)])else none
 | _=>none
def A5m(s:B0)(b:(s.length:Int)<=140737488351232):FA [.str s]=some (0,[.str (s)]):=A8 b
def A8h{G}(e:K4 G):L6 prog G 143 [.s 9] FA [.s 9]:=by
 intro us outs w vs R c b g hR;unfold FA at b;split at b
 .skip;rename_i s;split at b
  .rename_i f;cases b;have hv:=V6 (vs2:=[.string ⟨⟨s⟩⟩]) c rfl;subst hv;refine gW (vr:=[.string ⟨⟨s⟩⟩]) func143 rfl C9 rfl ?_;exact Tryz.stringslite_Clone ⟨⟨s⟩⟩ w (by show s.length<=_;omega)
  .cases b
 .cases b
def hv(c:Int):Int:=if 48<=c/\c<=57 then c-48 else if 65<=c/\c<=70 then c-55 else if 97<=c/\c<=102 then c-87 else -1
def pu:List Int->Int->Option Int
 | [],n=>some n
 | c::l,n=>if hv c<0 then none else pu l (n*16+hv c)
def puE(l:List Int)(n:Int):Option Int:=match pu l n with
 | none=>some 0
 | some _=>none
def puV(l:List Int)(n:Int):Int:=(pu l n).getD 0
def A9s{c:Int}(h0:0<=c)(h1:c<=255):0<=zU c/\zU c<=255:=by unfold zU;split<;>omega
def A95{c:Int}(h0:0<=c)(h1:c<=255):hv c=if 48<=c/\c<=57 then c-48 else if 97<=zU c/\zU c<=102 then zU c-87 else -1:=by
 unfold hv zU;repeat' split;all_goals omega
def A5J(h:∀ x ∈ l,0<=x/\x<=255)(i:Nat):0<=l.getD i default/\l.getD i default<=255:=by
 rw[B2];cases hx:l[i]? with
 | none=>decide
 | some x=>exact h x (D1 hx)
def B1P{n:Int}(h0:0<=i)(h1:i<(l.length:Int)):pu (l.drop i.toNat) n=if hv (l.getD i.toNat default)<0 then none else pu (l.drop (i+1).toNat) (n*16+hv (l.getD i.toNat default)):=by
 rw[R5 l h0 h1];rfl
def A4l{n:Int}(h0:0<=i)(h1:i<(l.length:Int))(b:hv (l.getD i.toNat default)=d)(c:0<=d):puE (l.drop i.toNat) n=puE (l.drop (i+1).toNat) (n*16+d)/\puV (l.drop i.toNat) n=puV (l.drop (i+1).toNat) (n*16+d):=by
 unfold puE puV;rw[B1P h0 h1,b,A6 A2];exact⟨rfl,rfl⟩
def A9W{n:Int}(h0:0<=i)(h1:i<(l.length:Int))(b:hv (l.getD i.toNat default)<0):puE (l.drop i.toNat) n=some 0:=by
 unfold puE;rw[B1P h0 h1,A8 b]
def A9X{n:Int}(h1:(l.length:Int)<=i):puE (l.drop i.toNat) n=none/\puV (l.drop i.toNat) n=n:=by
 unfold puE puV;rw[show l.drop i.toNat=[]from S5 A2];exact⟨rfl,rfl⟩
def A9g(h0:0<=i)(h1:i<6):(16:Int) ^ (i+1).toNat=16*16 ^ i.toNat/\(16:Int) ^ i.toNat<=1048576:=by
 obtain⟨n,rfl⟩:∃ n:Nat,i=n:=⟨i.toNat,A2⟩;have:n=0∨n=1∨n=2∨n=3∨n=4∨n=5:=A2;rcases this with rfl|rfl|rfl|rfl|rfl|rfl<;>decide
noncomputable def B3Y:O9:=⟨_,fun b=>(.cons (A7Q b) (.cons (A8h b) .nil))⟩
def oY:List U->Option (Nat×List U)
 | [.str z0,.int .u64 n,u_b,.int .i64 k,.int .i64 i]=>(P4 rB u_b).bind fun b=>if k=((el b).length:Int)/\0<=i/\i<=k/\k<=6/\(∀ x ∈ el b,0<=x/\x<=255)/\0<=n/\n<16 ^ i.toNat then R9 (puE ((el b).drop i.toNat) n) [.int .u64 (puV ((el b).drop i.toNat) n),.str z0] (fun j=>[.int .u64 j])else none
 | _=>none
def rX(z0:B0)(n:Int)(b:CV)(k:Int)(i:Int)(c:k=((el b).length:Int)/\0<=i/\i<=k/\k<=6/\(∀ x ∈ el b,0<=x/\x<=255)/\0<=n/\n<16 ^ i.toNat):oY [.str z0,.int .u64 n,E8 rB b,.int .i64 k,.int .i64 i]=R9 (puE ((el b).drop i.toNat) n) [.int .u64 (puV ((el b).drop i.toNat) n),.str z0] (fun j=>[.int .u64 j]):=by
 simp only[oY,I0,F1];exact A8 c
def A63:R1:=⟨[(1,.int .i64 (16)),(8,.bool false),(9,h 0 9),(10,.int .u64 (1152921504606846976)),(11,.int .u64 (4294967295)),(12,.bool false),(13,h 1 7),(99,own 19 2 11),(100,h 3 3),(101,h 4 3)],[(19,.sq 2 11 5 20),(20,.frz)],5,[⟨.exit 3,[(13,h 0 7),(12,.bool false),(9,h 1 9)],[],2⟩,⟨.ret,[(6,h 0 7),(7,.iface 174 (.int .i64 (2)))],[],1⟩]⟩
noncomputable def A1G:Code:=(f109.body).getD .skip
noncomputable def A6z:Code:=match G6 [true,true,true,true,true,true,true,true,true,true,true,false,true,false] A1G with|some (.loop x)=>x|_=>.skip
def A62:f109.body=some A1G:=rfl
def A61:G6 [true,true,true,true,true,true,true,true,true,true,true,false,true,false] A1G=some (.loop A6z):=C9
def A1D(n:Nat):Tr:=.fn zT [h 7 4] 1<|aQ [.int .u8 (97),h n 4]<|.br (n+1) (.fn zT [h 7 4] 1<|aQ [h (n+2) 4,.int .u8 (122)]<|.br (n+3) (.fn zT [h 7 4] 1<|.lt 4 (.bin .sub) [h (n+4) 4,.int .u8 (97)]<|.lt 4 (.bin .add) [h (n+5) 4,.int .u8 (10)]<|aH [h (n+6) 4,.int .u8 (16)]<|.br (n+7) (.ret [jI 1,.int .u64 (0)]) (aH [h 1 7,.int .u64 (1152921504606846976)]<|.br (n+8) (.no) (.lt 7 (.bin .mul) [h 1 7,.int .u64 (16)]<|.lt 7 (.conv .u64) [h (n+6) 4]<|.lt 7 (.bin .add) [h (n+9) 7,h (n+10) 7]<|aL [h (n+11) 7,h (n+9) 7]<|.br (n+12) (.no) (aG [h (n+11) 7,.int .u64 (4294967295)]<|.br (n+13) (.no) (aA [h3 4,jI 1]<|.ret [jI (-1),h 0 9,h (n+11) 7,h 2 11,h3 3,h3 (n+14)]))))) (.ret [jI 1,.int .u64 (0)])) (.ret [jI 1,.int .u64 (0)])
def A1C(n:Nat):Tr:=aQ [.int .u8 (48),h 7 4]<|.br n (aQ [h 7 4,.int .u8 (57)]<|.br (n+1) (.lt 4 (.bin .sub) [h 7 4,.int .u8 (48)]<|aH [h (n+2) 4,.int .u8 (16)]<|.br (n+3) (.ret [jI 1,.int .u64 (0)]) (aH [h 1 7,.int .u64 (1152921504606846976)]<|.br (n+4) (.no) (.lt 7 (.bin .mul) [h 1 7,.int .u64 (16)]<|.lt 7 (.conv .u64) [h (n+2) 4]<|.lt 7 (.bin .add) [h (n+5) 7,h (n+6) 7]<|aL [h (n+7) 7,h (n+5) 7]<|.br (n+8) (.no) (aG [h (n+7) 7,.int .u64 (4294967295)]<|.br (n+9) (.no) (aA [h3 4,jI 1]<|.ret [jI (-1),h 0 9,h (n+7) 7,h 2 11,h3 3,h3 (n+10)]))))) (A1D (n+2))) (A1D (n+1))
def A60:Tr:=Z6 4 3 5 (cQ 2 4 6 (.lt 4 (.get 1 0) [h 2 11,h3 4]<|aE [h 7 4,.int .u8 (95)]<|.br 8 (A1C 9) (A1C 9))) (.ret [jI 0,h 1 7,h 0 9])
def A1F:List U->Nat
 | [.str z0,.int .u64 n,u_b,.int .i64 k,.int .i64 i]=>(match P4 rB u_b with|some b=>(k-i).toNat|none=>0)
 | _=>0
def A1E(z0:B0)(n:Int)(b:CV)(k:Int)(i:Int):A1F [.str z0,.int .u64 n,E8 rB b,.int .i64 k,.int .i64 i]=(k-i).toNat:=by
 simp only[A1F,I0]
def B1O{G}(t:K4 G):∀ (E:Nat->U) (base:Nat),@Q1 ⟨E,G⟩ prog base gl f109.ntmps A6z (M1 prog gl n0 21 A63 oY):=by
 refine R4 (dep:=60) (f:=109) (n0:=n0) (nB:=21) (H0:=H0) A1F A60 (cxg (B3Y.2 t) (wP t)) t func109 A62 A61 C9 C9 C9 ?_;intro us d outs r;have B:=r;unfold oY at r;split at r
 .skip;rename_i z0 n F k i;have w:=C3.1 r;clear r;obtain⟨b,o,r⟩:=w;replace o:=L1 o;subst o;split at r
  .rename_i c;clear r B;have A:=A5J c.2.2.2.2.1 i.toNat;have hh:=A95 A.1 A.2;have J:=A9s A.1 A.2;have C:=fun h=>A9g (i:=i) c.2.1 h
   refine⟨rfl,?_⟩;unfold A60;refine w0 (.cons 4 _ (.cons 3 _ (.cons 2 _ (.cons 1 _ (.cons 0 _ (.nil)))))) ?_;repeat (first|refine w4 (fun g=>?_) fun g=>?_|refine bW ?_|refine W4 ?_|(refine w8 ?_;first|omega|(have C:=A9g (i:=i) c.2.1 A2;omega))|(refine w7 [.int .i64 _,.int .u64 _] ?_;rotate_left)|refine pF ?_|refine OO ?_|refine yJ ?_|refine jD ?_|refine B0w ?_|refine A6B ?_|refine qS ?_|refine jE ?_|refine w31 zT (e:=A44 _ A2) (k':=?_)|refine aK ?_|refine oM ?_|(refine w7 [.int .i64 _,.str _,.int .u64 _,E8 rB _,.int .i64 _,.int .i64 _] ?_;rotate_left)|refine dV ?_|refine w1 (.get 1 0) (u:=.int .u8 _) (e:=E5 rfl A2 A2 rfl) (k':=?_)|refine eH ?_|(refine w7 [.int .i64 _,.int .u64 _,.str _] ?_;rotate_left))
   all_goals first
    | refine M2 ?_ ?_
      .have C:=A9g (i:=i) c.2.1 A2;have I:∀ d,hv ((el b).getD i.toNat default)=d->0<=d->d<16->oY [.str z0,.int .u64 (n*16+d),E8 rB b,.int .i64 k,.int .i64 (i+1)]=oY [.str z0,.int .u64 n,E8 rB b,.int .i64 k,.int .i64 i]:=fun d H D h3=>by
        have q:=A4l (n:=n) c.2.1 (by omega:i<((el b).length:Int)) H D;rw[rX _ _ _ _ _ ⟨c.1,A2,A2,c.2.2.2.1,c.2.2.2.2.1,A2,A2⟩,rX _ _ _ _ _ c,q.1,q.2]
       exact I _ A2 A2 A2
      .rw[A1E,A1E];omega
    | refine H7 (d:=0) ?_
      have q:=A9X (n:=n) (by omega:((el b).length:Int)<=i);rw[rX _ _ _ _ _ c,q.1,q.2];rfl
    | refine H7 (d:=1) ?_
      rw[rX _ _ _ _ _ c,A9W c.2.1 A2 A2];rfl
  .cases r
 .cases r
noncomputable def A32:List LpE:=[(109,([true,true,true,true,true,true,true,true,true,true,true,false,true,false],M1 prog gl n0 21 A63 oY)),(88,([true,false,true,false],M1 prog gl n0 18 A2R sL))]
def OC{G}(b:K4 G):W5 prog G gl A32:=(.cons func109 A62 A61 (B1O b) (.cons func88 A2Q A2N (A7o b) .nil))
def puB(s:B0):Int:=if s=[]then -1 else(pu (bI s) 0).getD (-1)
def kX(s:B0):Int:=match H8 (niF s) nmL 0 with
 | some j=>1114113+j
 | none=>if s=[83,112,97,99,101]then 32 else if s.length=1 then((s.getD 0 0).toNat:Int)else if s.take 2=[85,43]/\s.length<=8 then puB (s.drop 2)else -1
def A8I{α:Type}{p:α->Bool}:∀ {l:List α} {i j:Int},H8 p l i=some j->i<=j/\j<i+l.length
 | [],i,j,h=>by cases h
 | a::l,i,j,h=>by
   unfold H8 at h;split at h
   .cases h;simp only[C8];omega
   .have:=A8I h;simp only[C8];omega
def A7C(h:H8 (niF s) (List.drop (0:Int).toNat (el (some nmL))) 0=some v):0<=v/\v<26:=by
 have:=A8I h;have e:((List.drop (0:Int).toNat (el (some nmL))).length:Int)=26:=rfl;omega
def B24(s:B0):∀ x ∈ el (some (bI s)),0<=x/\x<=255:=fun x h=>by have:=A3n (s:=s) h;omega
def B25{n:Int}(h:(s.length:Int)<=n):((el (some (bI s))).length:Int)<=n:=by show((bI s).length:Int)<=n;rw[vB];exact h
def B2r(h:H8 (niF s) nmL 0=some v):kX s=1114113+v:=by unfold kX;rw[h]
def XU(h:H8 (niF s) nmL 0=none):kX s=if s=[83,112,97,99,101]then 32 else if s.length=1 then((s.getD 0 0).toNat:Int)else if s.take 2=[85,43]/\s.length<=8 then puB (s.drop 2)else -1:=by unfold kX;rw[h]
def A64:∀ {l:List Int} {n v:Int},0<=n->pu l n=some v->0<=v/\v<(n+1)*16 ^ l.length
 | [],n,v,h0,h=>by cases h;simp;omega
 | c::l,n,v,h0,h=>by
   unfold pu at h;split at h
   .cases h
   .have b:hv c<16:=by unfold hv;(repeat' split)<;>omega
    have q:=A64 A2 h;have hp:(0:Int)<=16 ^ l.length:=Int.le_of_lt (Int.pow_pos E3);have hm:=Int.mul_le_mul_of_nonneg_right (show n*16+hv c+1<=(n+1)*16 by omega) hp;rw[Int.mul_assoc]at hm;rw[C8,Int.pow_succ,Int.mul_comm ((16:Int) ^ l.length) 16];omega
def B4w(c:(s.length:Int)<=6)(h:puE (List.drop (0:Int).toNat (el (some (bI s)))) 0=none):IntKind.i64.wrap (puV (List.drop (0:Int).toNat (el (some (bI s)))) 0)=(pu (bI s) 0).getD (-1):=by
 have e:List.drop (0:Int).toNat (el (some (bI s)))=bI s:=rfl;rw[e]at h ⊢;unfold puE at h;unfold puV;cases b:pu (bI s) 0 with
 | none=>rw[b]at h;cases h
 | some v =>
   have q:=A64 E3 b;rw[vB]at q;have f:(16:Int) ^ s.length<=16 ^ 6:=by
    have:=dK (n:=16) E3 (show s.length<=6 by omega)
    exact_mod_cast this
   show IntKind.i64.wrap v=v;exact jA A2 A2
def B4v(h:puE (List.drop (0:Int).toNat (el (some (bI s)))) 0=some j):(pu (bI s) 0).getD (-1) = -1:=by
 have e:List.drop (0:Int).toNat (el (some (bI s)))=bI s:=rfl;rw[e]at h;unfold puE at h;cases b:pu (bI s) 0 with
 | none=>rfl
 | some v=>rw[b]at h;cases h
def B1Q(h:s=[]):puB s = -1:=A8 h
def A1H(h:¬s=[]):puB s=(pu (bI s) 0).getD (-1):=A6 h
def B0Z(h:H8 (niF s) nmL 0=none)(h1:¬s=[83,112,97,99,101])(c:¬(s.length:Int)=1)(h3:¬¬List.take ((2:Int).toNat-(0:Int).toNat) (List.drop (0:Int).toNat s)=[85,43])(b:((List.drop (2:Int).toNat s).length:Int)<=6):kX s=puB (List.drop (2:Int).toNat s):=by
 rw[XU h,A6 h1,A6 A2,A8 ⟨B5.1 h3,by rw[D7]at b;simp at b;omega⟩];rfl
def B0Y(h:H8 (niF s) nmL 0=none)(h1:¬s=[83,112,97,99,101])(b:¬(s.length:Int)=1)(h3:¬(s.take 2=[85,43]/\s.length<=8)):kX s = -1:=by
 rw[XU h,A6 h1,A6 A2,A6 h3]
def B5h(h:H8 (niF s) nmL 0=none)(h1:¬s=[83,112,97,99,101])(b:(s.length:Int)=1):kX s=((s.getD 0 0).toNat:Int):=by
 rw[XU h,A6 h1,A8 A2]
def B5g(h:¬2<=(s.length:Int)):¬(s.take 2=[85,43]/\s.length<=8):=fun k=>by have:=E1 List.length k.1;rw[H3]at this;simp at this;omega
def B5f(h:¬((List.drop (2:Int).toNat s).length:Int)<=6):¬(s.take 2=[85,43]/\s.length<=8):=fun k=>by rw[D7]at h;have:=k.2;simp at h;omega
noncomputable def B30:O9:=⟨_,fun b=>(.cons (A1d b) (.cons (A7Q b) (.cons (A8h b) .nil)))⟩
def NL:List U->Option (Nat×List U)
 | [.str s]=>if(s.length:Int)<=140737488351232 then some (0,[.int .i64 (kX s)])else none
 | _=>none
def A5k(s:B0)(b:(s.length:Int)<=140737488351232):NL [.str s]=some (0,[.int .i64 (kX s)]):=A8 b
def A3a(n:Nat):Tr:=aE [h 0 9,.string ⟨⟨[83,112,97,99,101]⟩⟩]<|.br n (I2 32) (aD [h 0 9]<|J1 (n+1) (n+2) 1 (.lt 4 (.idx) [h 0 9,jI 0]<|.lt 3 (.conv .i64) [h (n+3) 4]<|.ret [h3 (n+4)]) (I2 (-1)))
def aU(a0:Int)(b:Nat)(a2:Nat)(e c:Tr):Tr:=aD [h b 9]<|aH [h3 a2,jI a0]<|.br (a2+1) e c
def A3Z(n:Nat):Tr:=aU 2 0 n (.lt 9 (.sub) [h 0 9,jI 0,jI 2]<|aE [h (n+2) 9,.string ⟨⟨[85,43]⟩⟩]<|L2 (n+3) (n+4) (A3a (n+5)) (.lt 9 (.sub1) [h 0 9,jI 2]<|aE [h 0 9,.string ⟨⟨[83,112,97,99,101]⟩⟩]<|.br (n+6) (I2 32) (aD [h 0 9]<|J1 (n+7) (n+8) 1 (.lt 4 (.idx) [h 0 9,jI 0]<|.lt 3 (.conv .i64) [h (n+9) 4]<|.ret [h3 (n+10)]) (aD [h (n+5) 9]<|S2 (n+9) (n+10) 6 (aE [h (n+5) 9,.string ⟨⟨[]⟩⟩]<|.br (n+11) (.fn FA [h (n+5) 9] 1<|I2 (-1)) (.dt 11 (.byt) [h (n+5) 9]<|aD [h (n+12) 11]<|.lp oY [h (n+5) 9,.int .u64 (0),h (n+12) 11,h3 (n+13),jI 0] 0 2 (.lt 3 (.conv .i64) [h (n+14) 7]<|.ret [h3 (n+16)]) (.lp oY [h (n+5) 9,.int .u64 (0),h (n+12) 11,h3 (n+13),jI 0] 1 1 (.fn FA [h (n+5) 9] 1<|I2 (-1)) (.no)))) (I2 (-1)))))) (A3a (n+2))
def A8f:Tr:=.fn zO [] 1<|aD [h 1 11]<|.lp sL [h 1 11,h 0 9,h3 2,jI 0] 0 0 (A3Z 3) (.lp sL [h 1 11,h 0 9,h3 2,jI 0] 1 1 (J6 3 4 0 (aA [jI 1114113,h3 3]<|.ret [h3 5]) (A3Z 5)) (.no))
def B2t{G}(b:K4 G):L6 prog G 51 [.s 9] NL [.s 3]:=by
 refine F3 (d:=60) A8f (cxg (B30.2 b) (OC b)) b ⟨f51,_,func51,rfl⟩ C9 C9 ?_;intro us outs c;unfold NL at c;split at c
 .skip;rename_i s;split at c
  .rename_i f;cases c;have n:=FX (s.getD (0:Int).toNat 0);unfold A8f;refine w0 (.cons 0 _ (.nil)) ?_;repeat (first|(refine w7 [.int .i64 _] ?_;rotate_left)|refine w4 (fun g=>?_) fun g=>?_|refine qS ?_|refine jE ?_|refine eG ?_|refine yK ?_|refine eH ?_|refine w1 (.idx) (e:=uS _ _ _ A2 A2) (k':=?_)|refine w31 FA (e:=A5m _ A2) (k':=?_)|refine kL ?_|refine jD ?_|refine w1 (.sub) (e:=t6 _ _ _ _ _ A2 A2 A2) (k':=?_)|refine Z5 ?_|refine w1 (.sub1) (e:=cU _ _ _ A2 A2) (k':=?_)|refine pF ?_|refine w2 (.byt) (r:=rB) (e:=VC _ rfl) (k':=?_)|(refine w6 oY (rX _ _ _ _ _ ⟨by first|rfl,E3,by first|omega,by first|exact B25 ‹_›,by first|exact B24 _,E3,E3⟩) (h0:=fun g=>?_) (h1:=fun v g=>?_);show Wk _ _ (.cons _ _ (.cons _ _ _));rotate_left;show Wk _ _ (.cons _ _ _);rotate_right)|refine bW ?_|refine W4 ?_|refine w31 zO (e:=TL ) (k':=?_)|(refine w6 sL (sK _ _ _ _ ⟨rfl,E3,by show(0:Int)<=26;decide,by show(26:Int)<=_;decide⟩) (h0:=fun g=>?_) (h1:=fun v g=>?_);skip;rotate_left;show Wk _ _ (.cons _ _ _);rotate_right))
   all_goals
    refine l0 ?_;symm;first
    | (exfalso;have:=A7C ‹_›;omega)
    | (have hv:=A7C ‹_›;rw[B2r ‹_›];first|done|(symm;exact jA A2 A2))
    | (rw[XU ‹_›,A8 ‹_›];done)
    | (rw[B5h ‹_› ‹_› ‹_›];first|rfl|(symm;exact jA A2 A2))
    | (rw[B0Z ‹_› ‹_› ‹_› ‹_› ‹_›,B1Q ‹_›];done)
    | (rw[B0Z ‹_› ‹_› ‹_› ‹_› ‹_›,A1H ‹_›,B4w ‹_› ‹_›];done)
    | (rw[B0Z ‹_› ‹_› ‹_› ‹_› ‹_›,A1H ‹_›,B4v ‹_›];done)
    | exact B0Y ‹_› ‹_› ‹_› (B5g ‹_›)
    | exact B0Y ‹_› ‹_› ‹_› (B5f ‹_›)
    | exact B0Y ‹_› ‹_› ‹_› (fun k=>(by assumption:¬List.take ((2:Int).toNat-(0:Int).toNat) (List.drop (0:Int).toNat s)=[85,43]) k.1)
  .cases c
 .cases c
def dX(s:B0):Xt:=(1,kX (stp [83,45] 1 (stp [77,45] 2 (stp [67,45] 4 (s,0)))).1,(stp [83,45] 1 (stp [77,45] 2 (stp [67,45] 4 (s,0)))).2,0,0,0,0,[])
def kpO(s:B0):Xt:=if kyP (dX s)/\N2 (dX s)=s then dX s else X0
def kpE(s:B0):Int:=if kyP (dX s)/\N2 (dX s)=s then 0 else 6
def B1p{X:Xt}(c:dX s=X)(h1:kyP X)(b:¬N2 X≠s):kpO s=X/\kpE s=0:=by
 unfold kpO kpE;rw[c,A8 ⟨h1,B5.1 b⟩,A8 ⟨h1,B5.1 b⟩];exact⟨rfl,rfl⟩
def B1r{X:Xt}(b:dX s=X)(h1:¬kyP X):kpO s=X0/\kpE s=6:=by
 unfold kpO kpE;rw[b,A6 (fun k=>h1 k.1),A6 (fun k=>h1 k.1)];exact⟨rfl,rfl⟩
def B1q{X:Xt}(c:dX s=X)(b:N2 X≠s):kpO s=X0/\kpE s=6:=by
 unfold kpO kpE;rw[c,A6 (fun k=>b k.2),A6 (fun k=>b k.2)];exact⟨rfl,rfl⟩
def A9E(v:Int)(h:¬2<=(s.length:Int)):stp p v (s,m)=(s,m):=A6 fun k=>h (by have:2<s.length:=k.1;omega)
def A9D(v:Int)(h:¬List.take ((2:Int).toNat-(0:Int).toNat) (List.drop (0:Int).toNat s)=p):stp p v (s,m)=(s,m):=A6 fun k=>h k.2
def A9C(v:Int)(h:List.drop (2:Int).toNat s=[]):stp p v (s,m)=(s,m):=A6 fun k=>by have:=E1 List.length h;rw[D7]at this;have h3:2<s.length:=k.1;simp at this;omega
def A9B(v:Int)(h:¬¬List.take ((2:Int).toNat-(0:Int).toNat) (List.drop (0:Int).toNat s)=p)(b:¬List.drop (2:Int).toNat s=[]):stp p v (s,m)=(List.drop (2:Int).toNat s,m+v):=A8 ⟨by show 2<s.length;exact Nat.lt_of_not_le fun k=>b (S5 k),B5.1 h⟩
noncomputable def B3b:O9:=⟨_,fun b=>(.cons (B2t b) (.cons (A2f b) (.cons (A7N b) .nil)))⟩
def sB:List U->Option (Nat×List U)
 | [.str s]=>if(s.length:Int)<=140737488351232 then some (0,[.int .i64 ((kpO s).1),.int .i64 ((kpO s).2.1),.int .i64 ((kpO s).2.2.1),.int .i64 ((kpO s).2.2.2.1),.int .i64 ((kpO s).2.2.2.2.1),.int .i64 ((kpO s).2.2.2.2.2.1),.int .i64 ((kpO s).2.2.2.2.2.2.1),.str ((kpO s).2.2.2.2.2.2.2),.int .i64 (kpE s)])else none
 | _=>none
def TG(s:B0)(b:(s.length:Int)<=140737488351232):sB [.str s]=some (0,[.int .i64 ((kpO s).1),.int .i64 ((kpO s).2.1),.int .i64 ((kpO s).2.2.1),.int .i64 ((kpO s).2.2.2.1),.int .i64 ((kpO s).2.2.2.2.1),.int .i64 ((kpO s).2.2.2.2.2.1),.int .i64 ((kpO s).2.2.2.2.2.2.1),.str ((kpO s).2.2.2.2.2.2.2),.int .i64 (kpE s)]):=A8 b
def cO(a0:Int)(b:Nat)(c e:Tr):Tr:=.fn zR [jI 1,h3 b,jI a0,jI 0,jI 0,jI 0,jI 0,.string ⟨⟨[]⟩⟩] 1<|aN [h (b+3) 9,h 0 9]<|.br (b+4) c e
def cP(a0:Int)(b:Nat)(a2:Nat)(e c:Tr):Tr:=.fn NL [h b 9] 1<|.fn sP [jI 1,h3 a2,jI a0,jI 0,jI 0,jI 0,jI 0,.string ⟨⟨[]⟩⟩] 1<|aX [h (a2+1) 8]<|.br (a2+2) e c
def QA(n:Nat):Tr:=cP 0 0 n J8 (cO 0 n J8 (S1 0 n))
def gG(a0:Int)(b:Nat)(a2:Nat)(e c:Tr):Tr:=.lt 9 (.sub1) [h b 9,jI a0]<|aN [h a2 9,.string ⟨⟨[]⟩⟩]<|.br (a2+1) e c
def xG(a0:Nat)(b:Nat)(c e:Tr):Tr:=.lt 9 (.sub) [h a0 9,jI 0,jI 2]<|aE [h b 9,.string ⟨⟨[83,45]⟩⟩]<|aX [h (b+1) 8]<|.br (b+2) c e
def PZ(n:Nat):Tr:=aU 2 0 n (xG 0 (n+2) (QA (n+5)) (gG 2 0 (n+5) (cP 1 (n+5) (n+7) J8 (cO 1 (n+7) J8 (S1 1 (n+7)))) (QA (n+7)))) (QA (n+2))
def PY(n:Nat):Tr:=aU 2 0 n (.lt 9 (.sub) [h 0 9,jI 0,jI 2]<|aE [h (n+2) 9,.string ⟨⟨[77,45]⟩⟩]<|L2 (n+3) (n+4) (PZ (n+5)) (gG 2 0 (n+5) (aU 2 (n+5) (n+7) (xG (n+5) (n+9) (cP 2 (n+5) (n+12) J8 (cO 2 (n+12) J8 (S1 2 (n+12)))) (gG 2 (n+5) (n+12) (cP 3 (n+12) (n+14) J8 (cO 3 (n+14) J8 (S1 3 (n+14)))) (cP 2 (n+5) (n+14) J8 (cO 2 (n+14) J8 (S1 2 (n+14)))))) (cP 2 (n+5) (n+9) J8 (cO 2 (n+9) J8 (S1 2 (n+9))))) (PZ (n+7)))) (PZ (n+2))
def PX(n:Nat):Tr:=cP 4 6 n J8 (cO 4 n J8 (S1 4 n))
def PW(n:Nat):Tr:=aU 2 6 n (xG 6 (n+2) (PX (n+5)) (gG 2 6 (n+5) (cP 5 (n+5) (n+7) J8 (cO 5 (n+7) J8 (S1 5 (n+7)))) (PX (n+7)))) (PX (n+2))
def PV(n:Nat):Tr:=cP 6 13 n J8 (cO 6 n J8 (S1 6 n))
def A7B:Tr:=aU 2 0 1 (.lt 9 (.sub) [h 0 9,jI 0,jI 2]<|aE [h 3 9,.string ⟨⟨[67,45]⟩⟩]<|L2 4 5 (PY 6) (gG 2 0 6 (aU 2 6 8 (.lt 9 (.sub) [h 6 9,jI 0,jI 2]<|aE [h 10 9,.string ⟨⟨[77,45]⟩⟩]<|L2 11 12 (PW 13) (gG 2 6 13 (aU 2 13 15 (xG 13 17 (PV 20) (gG 2 13 20 (cP 7 20 22 J8 (cO 7 22 J8 (S1 7 22))) (PV 22))) (PV 17)) (PW 15))) (PW 10)) (PY 8))) (PY 3)
def TH{G}(f:K4 G):L6 prog G 20 [.s 9] sB [.a [3,3,3,3,3,3,3,9],.s 3]:=by
 refine F3 (d:=60) A7B (cxg (B3b.2 f) .nil) f ⟨f20,_,func20,rfl⟩ C9 C9 ?_;intro us outs c;unfold sB at c;split at c
 .skip;rename_i s;split at c
  .rename_i k;cases c;unfold A7B;refine w0 (.cons 0 _ (.nil)) ?_;repeat (first|refine w4 (fun g=>?_) fun g=>?_|refine w4B (fun g=>?_) fun g=>?_|(refine w7 [.int .i64 _,.int .i64 _,.int .i64 _,.int .i64 _,.int .i64 _,.int .i64 _,.int .i64 _,.str _,.int .i64 _] ?_;rotate_left)|refine Z5 ?_|refine lF ?_|refine OP ?_|refine w31 NL (e:=A5k _ (by first|omega|(simp only[D7];omega))) (k':=?_)|refine w31 sP (e:=HO _ _ _ _ _ _ _ _ ⟨E3,E3,A12 (m:=140737488351232) rfl⟩) (k':=?_)|refine w31 zR (e:=TP _ _ _ _ _ _ _ _ (wA (x:=(1,kX _,_,0,0,0,0,[])) (B5.1 ‹_›))) (k':=?_)|refine eG ?_|refine jD ?_|refine w1 (.sub) (e:=t6 _ _ _ _ _ A2 A2 (by first|omega|(simp only[D7]at *;omega))) (k':=?_)|refine yK ?_|refine w1 (.sub1) (e:=cU _ _ _ A2 (by first|omega|(simp only[D7];omega))) (k':=?_))
   all_goals
    first
    | (exfalso;omega)
    | contradiction
    | (have b:dX s=dX s:=rfl
       conv at b=>rhs;unfold dX
       first|rw[A9E (p:=[67,45]) 4 ‹_›]at b|rw[A9D (p:=[67,45]) 4 ‹_›]at b|rw[A9C (p:=[67,45]) 4 (by first|assumption|exact B5.1 ‹_›)]at b|rw[A9B (p:=[67,45]) 4 ‹_› (by first|assumption|exact B5.1 ‹_›)]at b
       first|rw[A9E (p:=[77,45]) 2 ‹_›]at b|rw[A9D (p:=[77,45]) 2 ‹_›]at b|rw[A9C (p:=[77,45]) 2 (by first|assumption|exact B5.1 ‹_›)]at b|rw[A9B (p:=[77,45]) 2 ‹_› (by first|assumption|exact B5.1 ‹_›)]at b
       first|rw[A9E (p:=[83,45]) 1 ‹_›]at b|rw[A9D (p:=[83,45]) 1 ‹_›]at b|rw[A9C (p:=[83,45]) 1 (by first|assumption|exact B5.1 ‹_›)]at b|rw[A9B (p:=[83,45]) 1 ‹_› (by first|assumption|exact B5.1 ‹_›)]at b
       first
       | exact l9 (B1r b ‹_›).1 (B1r b ‹_›).2
       | exact l9 (B1q b ‹_›).1 (B1q b ‹_›).2
       | exact l9 (B1p b (B5.1 ‹_›) ‹_›).1 (B1p b (B5.1 ‹_›) ‹_›).2
)
  .cases c
 .cases c
def spl(c:UInt8):Nat->List B0->B0->Nat->List B0×B0×Nat
 | 0,a,s,i=>(a,s,i)
 | k+1,a,s,i=>if Lib.indexByte s c<0 then(a,s,i)else spl c k (a.set i (s.take (Lib.indexByte s c).toNat)) (s.drop ((Lib.indexByte s c).toNat+1)) (i+1)
def parts(s:B0)(c:UInt8):List B0 :=
 let n:=min (s.count c+1) (s.length+1)
 let r:=spl c (n-1) (List.replicate n []) s 0
 (r.1.set r.2.2 r.2.1).take (r.2.2+1)
def QU:∀ {s:B0} {c:UInt8},0<=Lib.indexByte s c->s=s.take (Lib.indexByte s c).toNat++c::s.drop ((Lib.indexByte s c).toNat+1)/\(Lib.indexByte s c).toNat<s.length/\s.count c=(s.drop ((Lib.indexByte s c).toNat+1)).count c+1
 | [],c,h=>by simp[Lib.indexByte]at h
 | b::l,c,h=>by
   have k:=Lib.indexByte_ge l c;unfold Lib.indexByte at h ⊢;split at h
   .rename_i f;rw[A8 f]
    have:=eq_of_beq f;subst this;simp
   .rename_i f;split at h
    .omega
    .rename_i h1;have h1:¬Lib.indexByte l c = -1:=by simpa using h1
     have g:0<=Lib.indexByte l c:=A2;obtain⟨i1,i2,i3⟩:=QU g;rw[A6 f,A6 (by simpa using h1)];have e:(Lib.indexByte l c+1).toNat=(Lib.indexByte l c).toNat+1:=A2;rw[e];refine⟨?_,?_,?_⟩
     .rw[List.take_succ_cons,List.drop_succ_cons,S9,<- i1]
     .rw[C8];omega
     .rw[List.drop_succ_cons,List.count_cons_of_ne (by simpa using f),i3]
def A2g:∀ {s:B0} {c:UInt8},Lib.indexByte s c<0->s.count c=0
 | [],_,_=>rfl
 | b::l,c,h=>by
   have e:=Lib.indexByte_ge l c;unfold Lib.indexByte at h;split at h
   .omega
   .rename_i f;split at h
    .rename_i h1;have h1:Lib.indexByte l c = -1:=by simpa using h1
     rw[List.count_cons_of_ne (by simpa using f),A2g A2]
    .omega
def S6(c:UInt8)(l:List B0):B0:=l.flatMap fun p=>p++[c]
def SC{c:UInt8}:∀ (k:Nat) (a:List B0) (s:B0) (i:Nat),s.count c=k->i+k<a.length->∃ P t,spl c k a s i=(a.take i++P++a.drop (i+k),t,i+k)/\P.length=k/\s=S6 c P++t
 | 0,a,s,i,_,h2=>⟨[],s,by simp[spl],rfl,by simp[S6]⟩
 | k+1,a,s,i,h1,h2=>by
   have hi:0<=Lib.indexByte s c:=by
    by_cases h:Lib.indexByte s c<0
    .have:=A2g h;omega
    .omega
   obtain⟨b,q,r⟩:=QU hi;unfold spl;rw[A6 A2];obtain⟨P,t,g,o,e⟩:=SC (c:=c) k (a.set i (s.take (Lib.indexByte s c).toNat)) (s.drop ((Lib.indexByte s c).toNat+1)) (i+1) A2 (by rw[M8];omega);refine⟨s.take (Lib.indexByte s c).toNat::P,t,?_,by rw[C8,o],?_⟩
   .rw[g];refine Prod.ext ?_ (Prod.ext rfl (by show i+1+k=i+(k+1);omega));show(a.set i _).take (i+1)++P++(a.set i _).drop (i+1+k)=a.take i++(_::P)++a.drop (i+(k+1));have n:i<a.length:=A2;rw[List.drop_set_of_lt A2,show i+1+k=i+(k+1) by omega,List.take_add_one,List.take_set_of_le (A7 _),S4 n];simp
   .have f:s=s.take (Lib.indexByte s c).toNat++c::(S6 c P++t):=by rw[<- e];exact b
    have:S6 c (s.take (Lib.indexByte s c).toNat::P)++t=s.take (Lib.indexByte s c).toNat++c::(S6 c P++t):=by simp[S6]
    rw[this];exact f
def tY(s:B0)(c:UInt8):∃ P t,parts s c=P++[t]/\P.length=s.count c/\s=S6 c P++t:=by
 have n:s.count c<=s.length:=dO;obtain⟨P,t,k,b,f⟩:=SC (c:=c) (s.count c) (List.replicate (s.count c+1) []) s 0 rfl (by simp);refine⟨P,t,?_,b,f⟩;have hm:min (s.count c+1) (s.length+1)=s.count c+1:=A2;unfold parts;simp only[hm,Nat.add_sub_cancel];rw[k];have g:(List.replicate (s.count c+1) ([]:B0)).drop (0+s.count c)=[[]]:=by
  rw[List.drop_replicate];simp
 rw[g];simp only[List.take_zero,G7,F7];rw[<- b,List.set_append_right _ _ (A7 _)];have e:(P++[[]].set (P.length-P.length) t:List B0)=P++[t]:=by simp
 rw[e];exact List.take_of_length_le (by simp)
def A8H{α:Type}{p:α->Bool}:∀ {l:List α} {i:Int},H8 p l i=none->∀ a ∈ l,p a=false
 | [],_,_,a,c=>by cases c
 | b::l,i,h,a,c=>by
   unfold H8 at h;split at h
   .cases h
   .rename_i e;rcases B3.1 c with rfl|c
    .exact Bool.eq_false_iff.2 e
    .exact A8H h a c
def A2w{α:Type}{p:α->Bool}:∀ {l:List α} {i j:Int},H8 p l i=some j->∃ u a v,l=u++a::v/\(∀ x ∈ u,p x=false)/\p a=true/\j=i+u.length
 | [],_,_,h=>by cases h
 | b::l,i,j,h=>by
   unfold H8 at h;split at h
   .rename_i c;cases h;exact⟨[],b,l,rfl,(fun x hx=>by cases hx),c,by simp⟩
   .rename_i c;obtain⟨u,a,v,e,h1,f,h3⟩:=A2w h;refine⟨b::u,a,v,by rw[e];rfl,fun x hx=>?_,f,by rw[C8];omega⟩;rcases B3.1 hx with rfl|hx
    .exact Bool.eq_false_iff.2 c
    .exact h1 x hx
def A2x{α:Type}{p:α->Bool}:∀ {u v:List α} {i:Int},(∀ x ∈ u,p x=false)->H8 p (u++v) i=H8 p v (i+u.length)
 | [],v,i,_=>by simp
 | b::u,v,i,h=>by
   show(if p b=true then some i else H8 p (u++v) (i+1))=_;rw[h b (B4 ..),A6 E3,A2x fun x hx=>h x (C4 _ hx),C8];congr 1;omega
def eqC(c b:UInt8):Bool:=decide (b=c)
def VH{c b:UInt8}(h:b=c):eqC c b=true:=H5 h
def A8N{c b:UInt8}(h:¬b=c):eqC c b=false:=D4 h
def fx(c:UInt8)(s:B0):Option Int:=H8 (eqC c) s 0
def A2q{c:UInt8}{v:B0}(h:∀ x ∈ u,x≠c):fx c (u++c::v)=some u.length:=by
 unfold fx;rw[A2x fun x hx=>A8N (h x hx)];show(if eqC c c=true then some _ else _)=_;rw[A8 (VH rfl)];congr 1;omega
def B2Q{c:UInt8}(h:fx c u=none):∀ x ∈ u,x≠c:=fun x hx e=>by
 have:=A8H h x hx;rw[VH e]at this;cases this
def QW{c:UInt8}(h:fx c s=some j):∃ u v,s=u++c::v/\(∀ x ∈ u,x≠c)/\j=(u.length:Int)/\s.take j.toNat=u/\s.drop (j+1).toNat=v:=by
 obtain⟨u,a,v,e,h1,f,h3⟩:=A2w h;obtain rfl:a=c:=G5 f;have n:j=(u.length:Int):=A2;have b:j.toNat=u.length:=A2;have g:(j+1).toNat=u.length+1:=A2;refine⟨u,v,e,(fun x hx k=>(by have:=h1 x hx;rw[VH k]at this;cases this)),n,?_,?_⟩
 .rw[b,e];simp
 .rw[g,e,<- bT];simp
def A2p:∀ (s:B0) (c:UInt8) (i:Int),H8 (eqC c) s i=if Lib.indexByte s c = -1 then none else some (i+Lib.indexByte s c)
 | [],_,_=>rfl
 | b::l,c,i=>by
   have g:=Lib.indexByte_ge l c;show(if eqC c b=true then some i else H8 (eqC c) l (i+1))=_;by_cases e:b=c
   .have f:Lib.indexByte (b::l) c=0:=by rw[Lib.indexByte,A8 (beq_iff_eq.2 e)]
    rw[A8 (VH e),f,A6 E3];simp
   .rw[A6 (by rw[A8N e];decide),A2p l c (i+1)];by_cases k:Lib.indexByte l c = -1
    .have f:Lib.indexByte (b::l) c = -1:=by rw[Lib.indexByte,A6 (by simpa using e),k];rfl
     rw[A8 k,f,A8 rfl]
    .have f:Lib.indexByte (b::l) c=Lib.indexByte l c+1:=by rw[Lib.indexByte,A6 (by simpa using e),A6 (by simpa using k)]
     rw[A6 k,f,A6 A2];congr 1;omega
def B5d{c:UInt8}(h:Lib.indexByte s c<0):fx c s=none:=by
 have b:=Lib.indexByte_ge s c;unfold fx;rw[A2p,A8 A2]
def B5c{c:UInt8}(h:¬Lib.indexByte s c<0):fx c s=some (Lib.indexByte s c):=by
 have b:=Lib.indexByte_ge s c;unfold fx;rw[A2p,A6 A2,Int.zero_add]
def sp(c:UInt8):B0->List B0
 | []=>[[]]
 | b::l=>if b=c then[]::sp c l else match sp c l with
   | x::r=>(b::x)::r
   | []=>[[b]]
def ZP{c:UInt8}:∀ {u:B0},(∀ x ∈ u,x≠c)->sp c u=[u]
 | [],_=>rfl
 | b::u,h=>by
   unfold sp;rw[A6 (h b (B4 ..)),ZP fun x hx=>h x (C4 _ hx)]
def PF{c:UInt8}:∀ {u v:B0},(∀ x ∈ u,x≠c)->sp c (u++c::v)=u::sp c v
 | [],v,_=>by
   show(if c=c then[]::sp c v else _)=_;rw[A8 rfl]
 | b::u,v,h=>by
   show sp c (b::(u++c::v))=_;unfold sp;rw[A6 (h b (B4 ..)),PF fun x hx=>h x (C4 _ hx)];cases v<;>rfl
def B02{c:UInt8}(h:fx c s=some j):sp c s=s.take j.toNat::sp c (s.drop (j+1).toNat):=by
 obtain⟨u,v,e,h1,_,h3,b⟩:=QW h;rw[h3,b,e,PF h1]
def B03{c:UInt8}(h:fx c s=none):sp c s=[s]:=ZP (B2Q h)
def ZQ(c:UInt8)(s:B0):sp c s≠[]:=by
 cases h:fx c s with
 | none=>rw[B03 h];simp
 | some j=>rw[B02 h];simp
def yT{c:UInt8}:∀ {P:List B0} {t:B0},(∀ p ∈ P,∀ x ∈ p,x≠c)->(∀ x ∈ t,x≠c)->sp c (S6 c P++t)=P++[t]
 | [],t,_,h=>ZP h
 | p::P,t,h1,h=>by
   have e:S6 c (p::P)++t=p++c::(S6 c P++t):=by simp[S6]
   rw[e,PF (h1 p (B4 ..)),yT (fun q b=>h1 q (C4 _ b)) h];rfl
def XX{c:UInt8}:∀ {P:List B0} {t:B0},(S6 c P++t).count c=P.length->(∀ p ∈ P,∀ x ∈ p,x≠c)/\(∀ x ∈ t,x≠c)
 | P,t,h=>by
   have k:∀ (P:List B0),(S6 c P).count c=P.length+(P.map (List.count c)).sum:=by
    intro P;induction P with
    | nil=>rfl
    | cons p P b =>
      have e:S6 c (p::P)=p++(c::S6 c P):=by simp[S6]
      rw[e,List.count_append,List.count_cons_self,b,C8,C5,List.sum_cons];omega
   rw[List.count_append,k]at h;have f:(P.map (List.count c)).sum=0:=A2;have g:t.count c=0:=A2;refine⟨fun p hp x hx e=>?_,fun x hx e=>?_⟩
   .have:List.count c p<=(P.map (List.count c)).sum:=by
     have:∀ {l:List B0},p ∈ l->List.count c p<=(l.map (List.count c)).sum:=by
      intro l;induction l with
      | nil=>intro h;cases h
      | cons q l b =>
        intro h;rw[C5,List.sum_cons];rcases B3.1 h with rfl|h
        .omega
        .have:=b h;omega
     exact this hp
    have:0<List.count c p:=List.count_pos_iff.2 (e▸hx);omega
   .have:0<List.count c t:=List.count_pos_iff.2 (e▸hx);omega
def zN(s:B0)(c:UInt8):parts s c=sp c s:=by
 obtain⟨P,t,h1,b,h3⟩:=tY s c;have g:(S6 c P++t).count c=P.length:=by rw[<- h3];exact b.symm
 obtain⟨e,f⟩:=XX g;rw[h1,h3,yT e f]
def ZS(s:B0)(c:UInt8):(sp c s).length=s.count c+1:=by
 rw[<- zN];obtain⟨P,t,h1,b,h3⟩:=tY s c;rw[h1,B7,b];rfl
def PE{c:UInt8}(h:p ∈ sp c s):p.length<=s.length:=by
 rw[<- zN]at h;obtain⟨P,t,h1,f,h3⟩:=tY s c;rw[h1]at h;rw[h3,B7];have k:∀ {P:List B0},p ∈ P->p.length<=(S6 c P).length:=by
  intro P;induction P with
  | nil=>intro h;cases h
  | cons q P b =>
    intro h;have e:S6 c (q::P)=q++(c::S6 c P):=by simp[S6]
    rw[e,B7,C8];rcases B3.1 h with rfl|h
    .omega
    .have:=b h;omega
 rcases B6.1 h with h|h
 .have:=k h;omega
 .obtain rfl:=K9.1 h;omega
end
end Go.Proofs.YtbbicpheoakeeaaGreatDoor
