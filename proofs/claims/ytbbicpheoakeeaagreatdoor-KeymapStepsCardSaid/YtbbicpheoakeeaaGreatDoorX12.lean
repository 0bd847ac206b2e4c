import Derived.Test.YtbbicpheoakeeaaGreatDoorX11
import Derived.Lib.Bytealg
set_option linter.all false
set_option maxRecDepth 100000
set_option maxHeartbeats 4000000
namespace Go.Proofs.YtbbicpheoakeeaaGreatDoor
variable {at_ i j m v:Int}{p x:Xt}{l ws:List Int}{a' acc:Option (List Gt)}{a a8 et p8 s sep u z:B1}{g:Gt}
section
open Go Go.Sx Go.Proofs.Tryz
def rD:Rw (Int×Int×Int×Int×Int×Int×Int×Int×B1):=rC (L5 .u8) (rC (L5 .u8) (rC (L5 .u8) (rC (L5 .u8) (rC (L5 .u8) (rC (L5 .u8) (rC (L5 .u8) (rC (L5 .u32) (r1 mR))))))))
abbrev Dt:=(Int×Int×Int×Int×Int×Int×Int×Int×B1)
def W8:List B1:=[[107,105,108,108],[122,111,111,109],[115,101,108,101,99,116,32,117,112],[120],[32,97,32,32,98,32],[45,114,32,120],[115,101,110,100,32,34,121,34],[119,105,110,100,111,119,32,51]]
def kIn(d:Dt):Xt:=(diK ((0:Int)%4),diC ((0:Int)%4) d.2.2.2.1 d.2.2.2.2.1 d.2.2.2.2.2.2.2.1,diM ((0:Int)%4) d.2.2.2.1 d.2.2.2.2.1 d.2.2.2.2.2.2.2.1,diW ((0:Int)%4) d.2.1,diB ((0:Int)%4) d.2.1 d.2.2.1 d.2.2.2.1 d.2.2.2.2.2.1 d.2.2.2.2.2.2.1,diR ((0:Int)%4) d.2.2.2.2.2.1,diL ((0:Int)%4) d.2.2.2.2.2.2.1,diT ((0:Int)%4) d.2.2.2.2.2.2.2.2)
def kCm(ws:List Int)(i:Int):B1:=if i<(ws.length:Int)then W8.getD (ws.getD i.toNat default%8).toNat []else[107,105,108,108]
def kRp(ws:List Int)(i:Int):Bool:=decide (i<(ws.length:Int)) && decide (ws.getD i.toNat default / 8%2=1)
def kG(ws:List Int)(i:Int)(d:Dt):Gt:=((kIn d).1,(kIn d).2.1,(kIn d).2.2.1,(kIn d).2.2.2.1,(kIn d).2.2.2.2.1,(kIn d).2.2.2.2.2.1,(kIn d).2.2.2.2.2.2.1,(kIn d).2.2.2.2.2.2.2,kCm ws i,kRp ws i)
def kdA(p:Xt)(ws:List Int)(i:Int)(d:Dt)(acc:Option (List Gt)):Option (List Gt):=if(el acc).any (gQ (kIn d))=false/\eqX (kIn d) p=false then P5 acc (some [kG ws i d])else acc
def kdL(p:Xt)(ws:List Int):List Dt->Int->Option (List Gt)->Option (List Gt)
 | [],_,acc=>acc
 | d::r,i,acc=>kdL p ws r (i+1) (kdA p ws i d acc)
def Dok(d:Dt):Prop:=(0<=d.1/\d.1<256)/\(0<=d.2.1/\d.2.1<256)/\(0<=d.2.2.1/\d.2.2.1<256)/\(0<=d.2.2.2.1/\d.2.2.2.1<256)/\(0<=d.2.2.2.2.1/\d.2.2.2.2.1<256)/\(0<=d.2.2.2.2.2.1/\d.2.2.2.2.2.1<256)/\(0<=d.2.2.2.2.2.2.1/\d.2.2.2.2.2.2.1<256)/\(0<=d.2.2.2.2.2.2.2.1/\d.2.2.2.2.2.2.2.1<4294967296)/\(d.2.2.2.2.2.2.2.2.length:Int)<=140737488351232
instance(d:Dt):Decidable (Dok d):=by unfold Dok;infer_instance
def A42{j:IntKind}(b:List B1)(h0:0<=i)(h1:i<b.length):evU .sel (.int j i::b.map U.str)=.str (b.getD i.toNat []):=by
 rw[A2j _ _ _ h0,B2,F8,B2];have:i.toNat<b.length:=A2;simp[this]
def A7C{d:Dt}(h1:(!(el acc).any (gQ (kIn d)))=true)(b:(!eqX (kIn d) p)=true):kdA p ws i d acc=P5 acc (some [kG ws i d]):=B0 ⟨A8N h1,A8N b⟩
def B07{d:Dt}(h1:(!(el acc).any (gQ (kIn d)))=false):kdA p ws i d acc=acc:=A8 fun h=>by rw[A8M h1]at h;cases h.1
def B06{d:Dt}(b:(!eqX (kIn d) p)=false):kdA p ws i d acc=acc:=A8 fun h=>by rw[A8M b]at h;cases h.2
def B3p{d:Dt}(h:i<(ws.length:Int)):kG ws i d=((kIn d).1,(kIn d).2.1,(kIn d).2.2.1,(kIn d).2.2.2.1,(kIn d).2.2.2.2.1,(kIn d).2.2.2.2.2.1,(kIn d).2.2.2.2.2.2.1,(kIn d).2.2.2.2.2.2.2,W8.getD (ws.getD i.toNat default%8).toNat [],decide (ws.getD i.toNat default / 8%2=1)):=by
 unfold kG kCm kRp;rw[B0 h,J7 h,gZ]
def B3q{d:Dt}(h:¬i<(ws.length:Int)):kG ws i d=((kIn d).1,(kIn d).2.1,(kIn d).2.2.1,(kIn d).2.2.2.1,(kIn d).2.2.2.2.1,(kIn d).2.2.2.2.2.1,(kIn d).2.2.2.2.2.2.1,(kIn d).2.2.2.2.2.2.2,[107,105,108,108],false):=by
 unfold kG kCm kRp;rw[A8 h,E3 h,nD]
def A7D(p:Xt)(ws:List Int)(i:Int)(d:Dt)(acc:Option (List Gt)):(el (kdA p ws i d acc)).length<=(el acc).length+1:=by
 unfold kdA;split
 .rw[eD,D4];exact A6 _
 .exact X3 _
def B03{l:List Dt}(h0:0<=i)(h1:i<(l.length:Int))(b:i<20):kdL p ws ((l.take 20).drop i.toNat) i acc=kdL p ws ((l.take 20).drop (i+1).toNat) (i+1) (kdA p ws i (l.getD i.toNat default) acc):=by
 rw[R4 (l.take 20) h0 (by rw[G0];omega),kdL,B2,E8 A2,B2]
def B04{l:List Dt}(h:(l.length:Int)<=i∨20<=i):kdL p ws ((l.take 20).drop i.toNat) i acc=acc:=by
 rw[bB (l.take 20) (by rw[G0];omega)];rfl
noncomputable def B2g:P2:=⟨_,fun b=>(.cons (A7n b) (.cons (A7e b) .nil))⟩
def sE:List U->Option (Nat×List U)
 | [.int .i64 i,.int .u8 e0,.int .u8 e1,.int .u8 e2,.int .u8 e3,.int .u8 e4,.int .u8 e5,.int .u8 e6,.int .u32 ec,.str et,u_ks,u_ws,.int .i64 p1,.int .i64 p2,.int .i64 p3,.int .i64 p4,.int .i64 p5,.int .i64 p6,.int .i64 p7,.str p8,u_acc]=>(I0 rD u_ks).bind fun ks=>(I0 rB u_ws).bind fun ws=>(I0 rG u_acc).bind fun acc=>if 0<=i/\i<=20/\i<=((el ks).length:Int)/\((el acc).length:Int)<=i/\((el ks).length:Int)<=140737488351232/\((el ws).length:Int)<=140737488351232/\(∀ d ∈ el ks,Dok d)/\(∀ x ∈ el ws,0<=x/\x<256)then some (0,[.int .i64 p1,.int .i64 p2,.int .i64 p3,.int .i64 p4,.int .i64 p5,.int .i64 p6,.int .i64 p7,.str p8,B9 rG (kdL (p1,p2,p3,p4,p5,p6,p7,p8) (el ws) (((el ks).take 20).drop i.toNat) i acc)])else none
 | _=>none
def xE(i:Int)(C:Int)(B:Int)(q:Int)(h:Int)(r:Int)(A:Int)(t:Int)(w:Int)(et:B1)(ks:(Option (List (Int×Int×Int×Int×Int×Int×Int×Int×B1))))(ws:CG)(b:Int)(o:Int)(k:Int)(n:Int)(e:Int)(c:Int)(f:Int)(p8:B1)(acc:(Option (List (Int×Int×Int×Int×Int×Int×Int×B1×B1×Bool))))(y:0<=i/\i<=20/\i<=((el ks).length:Int)/\((el acc).length:Int)<=i/\((el ks).length:Int)<=140737488351232/\((el ws).length:Int)<=140737488351232/\(∀ d ∈ el ks,Dok d)/\(∀ x ∈ el ws,0<=x/\x<256)):sE [.int .i64 i,.int .u8 C,.int .u8 B,.int .u8 q,.int .u8 h,.int .u8 r,.int .u8 A,.int .u8 t,.int .u32 w,.str et,B9 rD ks,B9 rB ws,.int .i64 b,.int .i64 o,.int .i64 k,.int .i64 n,.int .i64 e,.int .i64 c,.int .i64 f,.str p8,B9 rG acc]=some (0,[.int .i64 b,.int .i64 o,.int .i64 k,.int .i64 n,.int .i64 e,.int .i64 c,.int .i64 f,.str p8,B9 rG (kdL (b,o,k,n,e,c,f,p8) (el ws) (((el ks).take 20).drop i.toNat) i acc)]):=by
 simp only[sE,G2,D8];exact B0 y
def HF{B A q y r h t w b o k n e c f:Int}{ks:Option (List Dt)}{ws:CG}(C:0<=i/\i<=20/\i<=((el ks).length:Int)/\((el acc).length:Int)<=i/\((el ks).length:Int)<=140737488351232/\((el ws).length:Int)<=140737488351232/\(∀ d ∈ el ks,Dok d)/\(∀ x ∈ el ws,0<=x/\x<256))(h1:i<((el ks).length:Int))(E:i<20)(D:a'=kdA (b,o,k,n,e,c,f,p8) (el ws) i ((el ks).getD i.toNat default) acc):sE [.int .i64 (i+1),.int .u8 B,.int .u8 A,.int .u8 q,.int .u8 y,.int .u8 r,.int .u8 h,.int .u8 t,.int .u32 w,.str et,B9 rD ks,B9 rB ws,.int .i64 b,.int .i64 o,.int .i64 k,.int .i64 n,.int .i64 e,.int .i64 c,.int .i64 f,.str p8,B9 rG a']=sE [.int .i64 i,.int .u8 B,.int .u8 A,.int .u8 q,.int .u8 y,.int .u8 r,.int .u8 h,.int .u8 t,.int .u32 w,.str et,B9 rD ks,B9 rB ws,.int .i64 b,.int .i64 o,.int .i64 k,.int .i64 n,.int .i64 e,.int .i64 c,.int .i64 f,.str p8,B9 rG acc]:=by
 have F:=A7D (b,o,k,n,e,c,f,p8) (el ws) i ((el ks).getD i.toNat default) acc;rw[<- D]at F;rw[xE (i+1) B A q y r h t w et ks ws b o k n e c f p8 a' ⟨A2,A2,A2,A2,C.2.2.2.2⟩,xE i B A q y r h t w et ks ws b o k n e c f p8 acc C,B03 C.1 h1 E,<- D]
def A6_:Q0:=⟨[(1,.pointer (some ⟨17,0,none⟩)),(2,.pointer (some ⟨18,0,none⟩)),(3,.pointer (some ⟨19,0,none⟩)),(4,.pointer (some ⟨20,0,none⟩)),(5,h 0 3)],[(17,.cells 28 [h 1 4,h 2 4,h 3 4,h 4 4,h 5 4,h 6 4,h 7 4,h 8 6,h 9 9,dat 21 10 19,dat 22 11 11]),(18,.cells 35 [.int .i64 (0),.int .i64 (0),.int .i64 (0),.int .i64 (0),.int .i64 (0),.int .i64 (0),.int .i64 (0),.string ⟨⟨[]⟩⟩,.slice none 0 0]),(19,.cells 78 [.string ⟨⟨[107,105,108,108]⟩⟩,.string ⟨⟨[122,111,111,109]⟩⟩,.string ⟨⟨[115,101,108,101,99,116,32,117,112]⟩⟩,.string ⟨⟨[120]⟩⟩,.string ⟨⟨[32,97,32,32,98,32]⟩⟩,.string ⟨⟨[45,114,32,120]⟩⟩,.string ⟨⟨[115,101,110,100,32,34,121,34]⟩⟩,.string ⟨⟨[119,105,110,100,111,119,32,51]⟩⟩]),(20,.cells 35 [h 12 3,h 13 3,h 14 3,h 15 3,h 16 3,h 17 3,h 18 3,h 19 9,own 23 20 20]),(23,.sq 20 20 32 24),(21,.frz),(22,.frz),(24,.frz)],21,[⟨.exit 0,[(2,.pointer (some ⟨18,0,none⟩)),(4,.pointer (some ⟨20,0,none⟩))],[(18,.cells 35 [.int .i64 (0),.int .i64 (0),.int .i64 (0),.int .i64 (0),.int .i64 (0),.int .i64 (0),.int .i64 (0),.string ⟨⟨[]⟩⟩,.slice none 0 0]),(20,.cells 35 [h 0 3,h 1 3,h 2 3,h 3 3,h 4 3,h 5 3,h 6 3,h 7 9,own 25 8 20]),(25,.sq 8 20 32 26),(26,.frz)],9⟩]⟩
noncomputable def A13:Code:=(f11.body).getD .skip
noncomputable def A66:Code:=match G5 [true,true,true,true,false,true,false] A13 with|some (.loop x)=>x|_=>.skip
def A69:f11.body=some A13:=rfl
def A68:G5 [true,true,true,true,false,true,false] A13=some (.loop A66):=C4
def FW(a0:Nat)(b:Nat):Tr:=aA [h3 0,jI 1]<|.ret [jI (-1),h3 b,h 1 4,h 2 4,h 3 4,h 4 4,h 5 4,h 6 4,h 7 4,h 8 6,h 9 9,h 10 19,h 11 11,h3 12,h3 13,h3 14,h3 15,h3 16,h3 17,h3 18,h 19 9,h a0 20]
def HE(n:Nat):Tr:=FW 20 n
def dX(a0:Nat)(b:Nat)(a2:Nat)(c:Tr):Tr:=.lt 8 (.inbs 1) [h3 b,h a0 11]<|.br a2 c .no
def A67:Tr:=aD [h 10 19]<|U7 0 21 22 (eP 0 23 20 (.lt 8 (.inbs 9) [h3 0,h 10 19]<|.br 24 (.lt 4 (.get 9 0) [h 10 19,h3 0]<|.lt 4 (.get 9 1) [h 10 19,h3 0]<|.lt 4 (.get 9 2) [h 10 19,h3 0]<|.lt 4 (.get 9 3) [h 10 19,h3 0]<|.lt 4 (.get 9 4) [h 10 19,h3 0]<|.lt 4 (.get 9 5) [h 10 19,h3 0]<|.lt 4 (.get 9 6) [h 10 19,h3 0]<|.lt 6 (.get 9 7) [h 10 19,h3 0]<|.lt 9 (.get 9 8) [h 10 19,h3 0]<|.fn AM [.int .u8 (0),h 26 4,h 27 4,h 28 4,h 29 4,h 30 4,h 31 4,h 32 6,h 33 9] 8<|aD [h 11 11]<|U7 0 42 43 (dX 11 0 44 (.lt 4 (.get 1 0) [h 11 11,h3 0]<|.lt 4 (.bin .rem) [h 45 4,.int .u8 (8)]<|aI [h 46 4,jI 8]<|.br 47 (.lt 9 (.sel) [h 46 4,.string ⟨⟨[107,105,108,108]⟩⟩,.string ⟨⟨[122,111,111,109]⟩⟩,.string ⟨⟨[115,101,108,101,99,116,32,117,112]⟩⟩,.string ⟨⟨[120]⟩⟩,.string ⟨⟨[32,97,32,32,98,32]⟩⟩,.string ⟨⟨[45,114,32,120]⟩⟩,.string ⟨⟨[115,101,110,100,32,34,121,34]⟩⟩,.string ⟨⟨[119,105,110,100,111,119,32,51]⟩⟩]<|dX 11 0 49 (.lt 4 (.get 1 0) [h 11 11,h3 0]<|.lt 4 (.bin .quo) [h 50 4,.int .u8 (8)]<|.lt 4 (.bin .rem) [h 51 4,.int .u8 (2)]<|aE [h 52 4,.int .u8 (1)]<|.fn sX [h3 12,h3 13,h3 14,h3 15,h3 16,h3 17,h3 18,h 19 9,h 20 20,h3 34,h3 35,h3 36,h3 37,h3 38,h3 39,h3 40,h 41 9] 11<|M7 64 65 (FX 12 34 66 (.dt 20 (.snoc 10) [h 20 20,h3 34,h3 35,h3 36,h3 37,h3 38,h3 39,h3 40,h 41 9,h 48 9,h 53 8]<|FW 68 69) (HE 68)) (HE 66))) (.no))) (.fn sX [h3 12,h3 13,h3 14,h3 15,h3 16,h3 17,h3 18,h 19 9,h 20 20,h3 34,h3 35,h3 36,h3 37,h3 38,h3 39,h3 40,h 41 9] 11<|M7 54 55 (FX 12 34 56 (.dt 20 (.snoc 10) [h 20 20,h3 34,h3 35,h3 36,h3 37,h3 38,h3 39,h3 40,h 41 9,.string ⟨⟨[107,105,108,108]⟩⟩,.bool false]<|FW 58 59) (HE 58)) (HE 56))) (.no)) (.ret [jI 0,h3 12,h3 13,h3 14,h3 15,h3 16,h3 17,h3 18,h 19 9,h 20 20])) (.ret [jI 0,h3 12,h3 13,h3 14,h3 15,h3 16,h3 17,h3 18,h 19 9,h 20 20])
def A12:List U->Nat
 | [.int .i64 i,.int .u8 e0,.int .u8 e1,.int .u8 e2,.int .u8 e3,.int .u8 e4,.int .u8 e5,.int .u8 e6,.int .u32 ec,.str et,u_ks,u_ws,.int .i64 p1,.int .i64 p2,.int .i64 p3,.int .i64 p4,.int .i64 p5,.int .i64 p6,.int .i64 p7,.str p8,u_acc]=>(match I0 rD u_ks with|some ks=>(match I0 rB u_ws with|some ws=>(match I0 rG u_acc with|some acc=>(20-i).toNat|none=>0)|none=>0)|none=>0)
 | _=>0
def A11(i:Int)(A:Int)(y:Int)(c:Int)(r:Int)(e:Int)(w:Int)(k:Int)(o:Int)(et:B1)(ks:(Option (List (Int×Int×Int×Int×Int×Int×Int×Int×B1))))(ws:CG)(b:Int)(h:Int)(q:Int)(t:Int)(f:Int)(d:Int)(n:Int)(p8:B1)(acc:(Option (List (Int×Int×Int×Int×Int×Int×Int×B1×B1×Bool)))):A12 [.int .i64 i,.int .u8 A,.int .u8 y,.int .u8 c,.int .u8 r,.int .u8 e,.int .u8 w,.int .u8 k,.int .u32 o,.str et,B9 rD ks,B9 rB ws,.int .i64 b,.int .i64 h,.int .i64 q,.int .i64 t,.int .i64 f,.int .i64 d,.int .i64 n,.str p8,B9 rG acc]=(20-i).toNat:=by
 simp only[A12,G2]
def B02{G}(y:K2 G):∀ (E:Nat->U) (base:Nat),@L9 ⟨E,G⟩ prog base gl f11.ntmps A66 (K5 prog gl n0 27 A6_ sE):=by
 refine P9 (dep:=60) (f:=11) (n0:=n0) (nB:=27) (H0:=H0) A12 A67 (cxg (B2g.2 y) .nil) y func11 A69 A68 C4 C4 C4 ?_;intro us d outs c;have A:=c;unfold sE at c;split at c
 .skip;rename_i i X V F P J T L N et C D H W O S K I M p8 B;have w:=A7.1 c;clear c;obtain⟨ks,k,c⟩:=w;replace k:=F7 k;subst k;have t:=A7.1 c;clear c;obtain⟨ws,n,c⟩:=t;replace n:=F7 n;subst n;have o:=A7.1 c;clear c;obtain⟨acc,b,c⟩:=o;replace b:=F7 b;subst b;split at c
  .rename_i q;clear c A;have Q:i<((el ks).length:Int)->Dok ((el ks).getD i.toNat default):=fun h=>q.2.2.2.2.2.2.1 _ (m7 q.1 A2)
   have R:i<((el ws).length:Int)->0<=(el ws).getD i.toNat default/\(el ws).getD i.toNat default<256:=fun h=>q.2.2.2.2.2.2.2 _ (m7 q.1 A2)
   refine⟨rfl,?_⟩;unfold A67;refine s0L ?_;show Tr.sav _ _ (.cons 20 _ (.cons 19 _ (.cons 18 _ (.cons 17 _ (.cons 16 _ (.cons 15 _ (.cons 14 _ (.cons 13 _ (.cons 12 _ (.cons 11 _ (.cons 10 _ (.cons 9 _ (.cons 8 _ (.cons 7 _ (.cons 6 _ (.cons 5 _ (.cons 4 _ (.cons 3 _ (.cons 2 _ (.cons 1 _ (.cons 0 _ (.nil))))))))))))))))))))));refine Wk.s ?_;repeat (first|refine w4 (fun g=>?_) fun g=>?_|refine w4B (fun g=>?_) fun g=>?_|refine aM ?_|refine U8 ?_|refine u5 ?_|refine qG ?_|(refine w7 [.int .i64 _,.int .i64 _,.int .u8 _,.int .u8 _,.int .u8 _,.int .u8 _,.int .u8 _,.int .u8 _,.int .u8 _,.int .u32 _,.str _,B9 rD _,B9 rB _,.int .i64 _,.int .i64 _,.int .i64 _,.int .i64 _,.int .i64 _,.int .i64 _,.int .i64 _,.str _,B9 rG _] ?_;rotate_left)|refine A8S ?_|refine w1 (.bin .rem) (e:=HX _ _ _ A2) (k':=?_)|(refine w8 ?_;first|omega|(have z:=R ‹_›;omega))|refine q9 ?_|refine d9 ?_|refine bP ?_|refine w1 (.get 1 0) (u:=.int .u8 _) (e:=C5 rfl A2 A2 rfl) (k':=?_)|refine B0D ?_|refine w1 (.bin .quo) (e:=QT _ _ _ A2) (k':=?_)|(refine w3 sX (e:=UQ _ _ _ _ _ _ _ _ _ _ _ _ _ _ _ _ _ A2) (k':=?_);show Wk _ _ (.cons _ _ (.cons _ _ (.cons _ _ (.cons _ _ (.cons _ _ (.cons _ _ (.cons _ _ (.cons _ _ (.cons _ _ (.cons _ _ (.cons _ _ _))))))))))))|refine w1 (.eqs) (e:=rfl) (k':=?_)|refine w2 (.snoc 10) (r:=rG) (e:=fJ (a:=(_,_,_,_,_,_,_,_,_,_)) rfl rfl F0 A2) (k':=?_)|(refine w7 [.int .i64 _,.int .i64 _,.int .i64 _,.int .i64 _,.int .i64 _,.int .i64 _,.int .i64 _,.int .i64 _,.str _,B9 rG _] ?_;rotate_left)|refine w1 (.get 9 0) (u:=.int .u8 _) (e:=C5 rfl A2 A2 rfl) (k':=?_)|refine w1 (.get 9 1) (u:=.int .u8 _) (e:=C5 rfl A2 A2 rfl) (k':=?_)|refine w1 (.get 9 2) (u:=.int .u8 _) (e:=C5 rfl A2 A2 rfl) (k':=?_)|refine w1 (.get 9 3) (u:=.int .u8 _) (e:=C5 rfl A2 A2 rfl) (k':=?_)|refine w1 (.get 9 4) (u:=.int .u8 _) (e:=C5 rfl A2 A2 rfl) (k':=?_)|refine w1 (.get 9 5) (u:=.int .u8 _) (e:=C5 rfl A2 A2 rfl) (k':=?_)|refine w1 (.get 9 6) (u:=.int .u8 _) (e:=C5 rfl A2 A2 rfl) (k':=?_)|refine w1 (.get 9 7) (u:=.int .u32 _) (e:=C5 rfl A2 A2 rfl) (k':=?_)|refine w1 (.get 9 8) (u:=.str _) (e:=C5 rfl A2 A2 rfl) (k':=?_)|(refine w3 AM (e:=VC _ _ _ _ _ _ _ _ _ (by have z:=Q ‹_›;unfold Dok at z;omega)) (k':=?_);show Wk _ _ (.cons _ _ (.cons _ _ (.cons _ _ (.cons _ _ (.cons _ _ (.cons _ _ (.cons _ _ (.cons _ _ _)))))))))|refine B0F ?_|refine w1 (.sel) (e:=A42 W8 A2 (by show _<((8:Nat):Int);omega)) (k':=?_)|refine fS ?_)
   all_goals first
    | refine L2 ?_ ?_
      .first
       | exact HF q ‹_› ‹_› ((A7C ‹_› ‹_›).trans (by rw[B3p ‹_›];rfl)).symm
       | exact HF q ‹_› ‹_› ((A7C ‹_› ‹_›).trans (by rw[B3q ‹_›];rfl)).symm
       | exact HF q ‹_› ‹_› (B07 ‹_›).symm
       | exact HF q ‹_› ‹_› (B06 ‹_›).symm
      .rw[A11,A11];omega
    | refine H9 (d:=0) ?_
      rw[xE i X V F P J T L N et ks ws H W O S K I M p8 acc q,B04 A2]
  .cases c
 .cases c
noncomputable def B25:List LpE:=(11,([true,true,true,true,false,true,false],K5 prog gl n0 27 A6_ sE))::[]
def A3s{G}(b:K2 G):U2 prog G gl B25:=.cons func11 A69 A68 (B02 b) .nil
noncomputable def B2f:P2:=⟨_,fun b=>(.cons (A7n b) .nil)⟩
def DR:List U->Option (Nat×List U)
 | [.int .u8 e0,.int .u8 e1,.int .u8 e2,.int .u8 e3,.int .u8 e4,.int .u8 e5,.int .u8 e6,.int .u32 ec,.str et,u_ks,u_ws]=>(I0 rD u_ks).bind fun ks=>(I0 rB u_ws).bind fun ws=>if((el ks).length:Int)<=140737488351232/\((el ws).length:Int)<=140737488351232/\(∀ d ∈ el ks,Dok d)/\(∀ x ∈ el ws,0<=x/\x<256)/\Dok (e0,e1,e2,e3,e4,e5,e6,ec,et)then some (0,[.int .i64 ((kIn (e0,e1,e2,e3,e4,e5,e6,ec,et)).1),.int .i64 ((kIn (e0,e1,e2,e3,e4,e5,e6,ec,et)).2.1),.int .i64 ((kIn (e0,e1,e2,e3,e4,e5,e6,ec,et)).2.2.1),.int .i64 ((kIn (e0,e1,e2,e3,e4,e5,e6,ec,et)).2.2.2.1),.int .i64 ((kIn (e0,e1,e2,e3,e4,e5,e6,ec,et)).2.2.2.2.1),.int .i64 ((kIn (e0,e1,e2,e3,e4,e5,e6,ec,et)).2.2.2.2.2.1),.int .i64 ((kIn (e0,e1,e2,e3,e4,e5,e6,ec,et)).2.2.2.2.2.2.1),.str ((kIn (e0,e1,e2,e3,e4,e5,e6,ec,et)).2.2.2.2.2.2.2),B9 rG (kdL (kIn (e0,e1,e2,e3,e4,e5,e6,ec,et)) (el ws) ((el ks).take 20) 0 none)])else none
 | _=>none
def A4q(e:Int)(q:Int)(c:Int)(k:Int)(n:Int)(o:Int)(b:Int)(f:Int)(et:B1)(ks:(Option (List (Int×Int×Int×Int×Int×Int×Int×Int×B1))))(ws:CG)(r:((el ks).length:Int)<=140737488351232/\((el ws).length:Int)<=140737488351232/\(∀ d ∈ el ks,Dok d)/\(∀ x ∈ el ws,0<=x/\x<256)/\Dok (e,q,c,k,n,o,b,f,et)):DR [.int .u8 e,.int .u8 q,.int .u8 c,.int .u8 k,.int .u8 n,.int .u8 o,.int .u8 b,.int .u32 f,.str et,B9 rD ks,B9 rB ws]=some (0,[.int .i64 ((kIn (e,q,c,k,n,o,b,f,et)).1),.int .i64 ((kIn (e,q,c,k,n,o,b,f,et)).2.1),.int .i64 ((kIn (e,q,c,k,n,o,b,f,et)).2.2.1),.int .i64 ((kIn (e,q,c,k,n,o,b,f,et)).2.2.2.1),.int .i64 ((kIn (e,q,c,k,n,o,b,f,et)).2.2.2.2.1),.int .i64 ((kIn (e,q,c,k,n,o,b,f,et)).2.2.2.2.2.1),.int .i64 ((kIn (e,q,c,k,n,o,b,f,et)).2.2.2.2.2.2.1),.str ((kIn (e,q,c,k,n,o,b,f,et)).2.2.2.2.2.2.2),B9 rG (kdL (kIn (e,q,c,k,n,o,b,f,et)) (el ws) ((el ks).take 20) 0 none)]):=by
 simp only[DR,G2,D8];exact B0 r
def A65:Tr:=.fn AM [.int .u8 (0),h 1 4,h 2 4,h 3 4,h 4 4,h 5 4,h 6 4,h 7 6,h 8 9] 8<|.dt 20 (.nilw 10) []<|.fn sE [jI 0,.int .u8 (0),h 1 4,h 2 4,h 3 4,h 4 4,h 5 4,h 6 4,h 7 6,h 8 9,h 9 19,h 10 11,h3 11,h3 12,h3 13,h3 14,h3 15,h3 16,h3 17,h 18 9,h 19 20] 9<|.ret [h3 20,h3 21,h3 22,h3 23,h3 24,h3 25,h3 26,h 27 9,h 28 20]
def zR{G}(k:K2 G):L8 prog G 11 [.a [4,4,4,4,4,4,4,6,9,19,11]] DR [.a [3,3,3,3,3,3,3,9,20]]:=by
 refine G3 (d:=60) A65 (cxg (B2f.2 k) (A3s k)) k ⟨f11,_,func11,rfl⟩ C4 C4 ?_;intro us outs f;unfold DR at f;split at f
 .skip;rename_i F E y C h D A B et t w;have o:=A7.1 f;clear f;obtain⟨ks,b,f⟩:=o;replace b:=F7 b;subst b;have n:=A7.1 f;clear f;obtain⟨ws,c,f⟩:=n;replace c:=F7 c;subst c;split at f
  .rename_i q;cases f;unfold A65;refine w0 (.cons 10 _ (.cons 9 _ (.cons 8 _ (.cons 7 _ (.cons 6 _ (.cons 5 _ (.cons 4 _ (.cons 3 _ (.cons 2 _ (.cons 1 _ (.cons 0 _ (.nil)))))))))))) ?_;repeat (first|(refine w3 AM (e:=VC _ _ _ _ _ _ _ _ _ (by have z:=q.2.2.2.2;simp only[Dok]at z;omega)) (k':=?_);show Wk _ _ (.cons _ _ (.cons _ _ (.cons _ _ (.cons _ _ (.cons _ _ (.cons _ _ (.cons _ _ (.cons _ _ _)))))))))|refine w2 (.nilw 10) (r:=rG) (e:=tB rfl) (k':=?_)|(refine w3 sE (e:=xE _ _ _ _ _ _ _ _ _ _ _ _ _ _ _ _ _ _ _ _ _ ⟨F0,F0,A2,F0,q.1,q.2.1,q.2.2.1,q.2.2.2.1⟩) (k':=?_);show Wk _ _ (.cons _ _ (.cons _ _ (.cons _ _ (.cons _ _ (.cons _ _ (.cons _ _ (.cons _ _ (.cons _ _ (.cons _ _ _))))))))))|(refine w7 [.int .i64 _,.int .i64 _,.int .i64 _,.int .i64 _,.int .i64 _,.int .i64 _,.int .i64 _,.str _,B9 rG _] ?_;rotate_left))
   all_goals
    first|rfl
  .cases f
 .cases f
def shG(g:Gt):Gt:=(g.1,g.2.1,g.2.2.1,g.2.2.2.1,g.2.2.2.2.1,g.2.2.2.2.2.1,g.2.2.2.2.2.2.1,(g.2.2.2.2.2.2.2.1.drop (0:Int).toNat).take ((min (g.2.2.2.2.2.2.2.1.length:Int) 20).toNat-(0:Int).toNat),(g.2.2.2.2.2.2.2.2.1.drop (0:Int).toNat).take ((min (g.2.2.2.2.2.2.2.2.1.length:Int) 110).toNat-(0:Int).toNat),g.2.2.2.2.2.2.2.2.2)
def shL(l:List Gt):Option (List Gt):=P5 none (some ((l.take 70).map shG))
def shT(t:B1):B1:=(t.drop (0:Int).toNat).take ((min (t.length:Int) 20).toNat-(0:Int).toNat)
def A8a{l:List Gt}(h0:0<=i)(h1:i<(l.length:Int))(b:i<70):P5 acc (some (((l.take 70).drop i.toNat).map shG))=P5 (P5 acc (some [shG (l.getD i.toNat default)])) (some (((l.take 70).drop (i+1).toNat).map shG)):=by
 rw[R4 (l.take 70) h0 (by rw[G0];omega),oG,B2,E8 A2,B2];rfl
def A8b{l:List Gt}(h:(l.length:Int)<=i∨70<=i):P5 acc (some (((l.take 70).drop i.toNat).map shG))=acc:=by
 rw[bB (l.take 70) (by rw[G0];omega)];exact AS acc
noncomputable def B2H:P2:=⟨_,fun b=>.nil⟩
def yE:List U->Option (Nat×List U)
 | [u_acc,.int .i64 i,.int .i64 p1,.int .i64 p2,.int .i64 p3,.int .i64 p4,.int .i64 p5,.int .i64 p6,.int .i64 p7,.str p8,u_l]=>(I0 rG u_acc).bind fun acc=>(I0 rG u_l).bind fun l=>if 0<=i/\i<=70/\i<=((el l).length:Int)/\((el acc).length:Int)<=i/\((el l).length:Int)<=140737488351232/\(∀ g ∈ el l,gOk g)then some (0,[B9 rG (P5 acc (some ((((el l).take 70).drop i.toNat).map shG))),.int .i64 p1,.int .i64 p2,.int .i64 p3,.int .i64 p4,.int .i64 p5,.int .i64 p6,.int .i64 p7,.str p8,B9 rG l])else none
 | _=>none
def xB(acc:(Option (List (Int×Int×Int×Int×Int×Int×Int×B1×B1×Bool))))(i:Int)(b:Int)(n:Int)(d:Int)(f:Int)(k:Int)(e:Int)(c:Int)(p8:B1)(l:(Option (List (Int×Int×Int×Int×Int×Int×Int×B1×B1×Bool))))(o:0<=i/\i<=70/\i<=((el l).length:Int)/\((el acc).length:Int)<=i/\((el l).length:Int)<=140737488351232/\(∀ g ∈ el l,gOk g)):yE [B9 rG acc,.int .i64 i,.int .i64 b,.int .i64 n,.int .i64 d,.int .i64 f,.int .i64 k,.int .i64 e,.int .i64 c,.str p8,B9 rG l]=some (0,[B9 rG (P5 acc (some ((((el l).take 70).drop i.toNat).map shG))),.int .i64 b,.int .i64 n,.int .i64 d,.int .i64 f,.int .i64 k,.int .i64 e,.int .i64 c,.str p8,B9 rG l]):=by
 simp only[yE,G2,D8];exact B0 o
def A54:Q0:=⟨[(1,.pointer (some ⟨17,0,none⟩)),(2,.pointer (some ⟨18,0,none⟩)),(3,own 19 0 20),(4,h 1 3)],[(17,.cells 35 [h 2 3,h 3 3,h 4 3,h 5 3,h 6 3,h 7 3,h 8 3,h 9 9,dat 21 10 20]),(18,.cells 35 [.int .i64 (0),.int .i64 (0),.int .i64 (0),.int .i64 (0),.int .i64 (0),.int .i64 (0),.int .i64 (0),.string ⟨⟨[]⟩⟩,.slice none 0 0]),(19,.sq 0 20 32 20),(20,.frz),(21,.frz)],11,[⟨.exit 0,[(1,.pointer (some ⟨17,0,none⟩)),(2,.pointer (some ⟨18,0,none⟩)),(3,own 22 0 20)],[(17,.cells 35 [h 1 3,h 2 3,h 3 3,h 4 3,h 5 3,h 6 3,h 7 3,h 8 9,dat 24 9 20]),(18,.cells 35 [.int .i64 (0),.int .i64 (0),.int .i64 (0),.int .i64 (0),.int .i64 (0),.int .i64 (0),.int .i64 (0),.string ⟨⟨[]⟩⟩,.slice none 0 0]),(22,.sq 0 20 32 23),(23,.frz),(24,.frz)],10⟩]⟩
noncomputable def ZG:Code:=(f35.body).getD .skip
noncomputable def A50:Code:=match G5 [true,true,false,true,false] ZG with|some (.loop x)=>x|_=>.skip
def A53:f35.body=some ZG:=rfl
def A52:G5 [true,true,false,true,false] ZG=some (.loop A50):=C4
def A51:Tr:=iV 1 10 11 (eP 1 13 70 (c8 1 10 14 (.lt 3 (.get 10 0) [h 10 20,h3 1]<|.lt 3 (.get 10 1) [h 10 20,h3 1]<|.lt 3 (.get 10 2) [h 10 20,h3 1]<|.lt 3 (.get 10 3) [h 10 20,h3 1]<|.lt 3 (.get 10 4) [h 10 20,h3 1]<|.lt 3 (.get 10 5) [h 10 20,h3 1]<|.lt 3 (.get 10 6) [h 10 20,h3 1]<|.lt 9 (.get 10 7) [h 10 20,h3 1]<|.lt 9 (.get 10 8) [h 10 20,h3 1]<|.lt 8 (.get 10 9) [h 10 20,h3 1]<|aD [h 23 9]<|.lt 3 (.min) [h3 25,jI 110]<|.lt 9 (.sub) [h 23 9,jI 0,h3 26]<|aD [h 22 9]<|.lt 3 (.min) [h3 28,jI 20]<|.lt 9 (.sub) [h 22 9,jI 0,h3 29]<|.dt 20 (.snoc 10) [h 0 20,h3 15,h3 16,h3 17,h3 18,h3 19,h3 20,h3 21,h 30 9,h 27 9,h 24 8]<|aA [h3 1,jI 1]<|.ret [jI (-1),h 31 20,h3 32,h3 2,h3 3,h3 4,h3 5,h3 6,h3 7,h3 8,h 9 9,h 10 20])) (.ret [jI 0,h 0 20,h3 2,h3 3,h3 4,h3 5,h3 6,h3 7,h3 8,h 9 9,h 10 20])) (.ret [jI 0,h 0 20,h3 2,h3 3,h3 4,h3 5,h3 6,h3 7,h3 8,h 9 9,h 10 20])
def ZF:List U->Nat
 | [u_acc,.int .i64 i,.int .i64 p1,.int .i64 p2,.int .i64 p3,.int .i64 p4,.int .i64 p5,.int .i64 p6,.int .i64 p7,.str p8,u_l]=>(match I0 rG u_acc with|some acc=>(match I0 rG u_l with|some l=>(70-i).toNat|none=>0)|none=>0)
 | _=>0
def ZE(acc:(Option (List (Int×Int×Int×Int×Int×Int×Int×B1×B1×Bool))))(i:Int)(b:Int)(n:Int)(d:Int)(f:Int)(k:Int)(e:Int)(c:Int)(p8:B1)(l:(Option (List (Int×Int×Int×Int×Int×Int×Int×B1×B1×Bool)))):ZF [B9 rG acc,.int .i64 i,.int .i64 b,.int .i64 n,.int .i64 d,.int .i64 f,.int .i64 k,.int .i64 e,.int .i64 c,.str p8,B9 rG l]=(70-i).toNat:=by
 simp only[ZF,G2]
def B0O{G}(q:K2 G):∀ (E:Nat->U) (base:Nat),@L9 ⟨E,G⟩ prog base gl f35.ntmps A50 (K5 prog gl n0 25 A54 yE):=by
 refine P9 (dep:=60) (f:=35) (n0:=n0) (nB:=25) (H0:=H0) ZF A51 (cxg (B2H.2 q) .nil) q func35 A53 A52 C4 C4 C4 ?_;intro us d outs c;have w:=c;unfold yE at c;split at c
 .skip;rename_i D i y I F H B A C p8 J;have n:=A7.1 c;clear c;obtain⟨acc,b,c⟩:=n;replace b:=F7 b;subst b;have t:=A7.1 c;clear c;obtain⟨l,k,c⟩:=t;replace k:=F7 k;subst k;split at c
  .rename_i o;clear c w;have K:i<((el l).length:Int)->gOk ((el l).getD i.toNat default):=fun h=>o.2.2.2.2.2 _ (m7 o.1 A2)
   refine⟨rfl,?_⟩;unfold A51;refine w0 (.cons 10 _ (.cons 9 _ (.cons 8 _ (.cons 7 _ (.cons 6 _ (.cons 5 _ (.cons 4 _ (.cons 3 _ (.cons 2 _ (.cons 1 _ (.cons 0 _ (.nil)))))))))))) ?_;repeat (first|refine w4 (fun g=>?_) fun g=>?_|refine q9 ?_|refine iX ?_|refine A34 ?_|refine B0C ?_|refine aM ?_|refine U8 ?_|(refine w7 [.int .i64 _,B9 rG _,.int .i64 _,.int .i64 _,.int .i64 _,.int .i64 _,.int .i64 _,.int .i64 _,.int .i64 _,.str _,B9 rG _] ?_;rotate_left)|refine bP ?_|refine d9 ?_|refine w1 (.get 10 0) (u:=.int .i64 _) (e:=C5 rfl A2 A2 rfl) (k':=?_)|refine w1 (.get 10 1) (u:=.int .i64 _) (e:=C5 rfl A2 A2 rfl) (k':=?_)|refine w1 (.get 10 2) (u:=.int .i64 _) (e:=C5 rfl A2 A2 rfl) (k':=?_)|refine w1 (.get 10 3) (u:=.int .i64 _) (e:=C5 rfl A2 A2 rfl) (k':=?_)|refine w1 (.get 10 4) (u:=.int .i64 _) (e:=C5 rfl A2 A2 rfl) (k':=?_)|refine w1 (.get 10 5) (u:=.int .i64 _) (e:=C5 rfl A2 A2 rfl) (k':=?_)|refine w1 (.get 10 6) (u:=.int .i64 _) (e:=C5 rfl A2 A2 rfl) (k':=?_)|refine w1 (.get 10 7) (u:=.str _) (e:=C5 rfl A2 A2 rfl) (k':=?_)|refine w1 (.get 10 8) (u:=.str _) (e:=C5 rfl A2 A2 rfl) (k':=?_)|refine w1 (.get 10 9) (u:=.bool _) (e:=C5 rfl A2 A2 rfl) (k':=?_)|refine w2 (.snoc 10) (r:=rG) (e:=fJ (a:=shG ((el l).getD i.toNat default)) rfl rfl F0 A2) (k':=?_)|(refine w7 [.int .i64 _,B9 rG _,.int .i64 _,.int .i64 _,.int .i64 _,.int .i64 _,.int .i64 _,.int .i64 _,.int .i64 _,.int .i64 _,.str _,B9 rG _] ?_;rotate_left)|(refine w8 ?_;first|omega|(have z:=K ‹_›;unfold gOk at z;omega)))
   all_goals first
    | refine L2 ?_ ?_
      .rw[xB acc i y I F H B A C p8 l o,A8a o.1 ‹_› ‹_›];exact xB _ (i+1) y I F H B A C p8 l ⟨A2,A2,A2,by rw[O1,D4,N2];omega,o.2.2.2.2⟩
      .rw[ZE,ZE];omega
    | refine H9 (d:=0) ?_
      rw[xB acc i y I F H B A C p8 l o,A8b A2]
  .cases c
 .cases c
noncomputable def B21:List LpE:=(35,([true,true,false,true,false],K5 prog gl n0 25 A54 yE))::[]
def A3g{G}(b:K2 G):U2 prog G gl B21:=.cons func35 A53 A52 (B0O b) .nil
noncomputable def B2G:P2:=⟨_,fun b=>.nil⟩
def yD:List U->Option (Nat×List U)
 | [.int .i64 p1,.int .i64 p2,.int .i64 p3,.int .i64 p4,.int .i64 p5,.int .i64 p6,.int .i64 p7,.str p8,u_l]=>(I0 rG u_l).bind fun l=>if(p8.length:Int)<=140737488351232/\((el l).length:Int)<=140737488351232/\(∀ g ∈ el l,gOk g)then some (0,[.int .i64 (p1),.int .i64 (p2),.int .i64 (p3),.int .i64 (p4),.int .i64 (p5),.int .i64 (p6),.int .i64 (p7),.str (shT p8),B9 rG (shL (el l))])else none
 | _=>none
def A4B(b:Int)(n:Int)(d:Int)(f:Int)(k:Int)(e:Int)(c:Int)(p8:B1)(l:(Option (List (Int×Int×Int×Int×Int×Int×Int×B1×B1×Bool))))(o:(p8.length:Int)<=140737488351232/\((el l).length:Int)<=140737488351232/\(∀ g ∈ el l,gOk g)):yD [.int .i64 b,.int .i64 n,.int .i64 d,.int .i64 f,.int .i64 k,.int .i64 e,.int .i64 c,.str p8,B9 rG l]=some (0,[.int .i64 (b),.int .i64 (n),.int .i64 (d),.int .i64 (f),.int .i64 (k),.int .i64 (e),.int .i64 (c),.str (shT p8),B9 rG (shL (el l))]):=by
 simp only[yD,G2,D8];exact B0 o
def A5z:Tr:=.dt 20 (.nilw 10) []<|.fn yE [h 9 20,jI 0,h3 0,h3 1,h3 2,h3 3,h3 4,h3 5,h3 6,h 7 9,h 8 20] 10<|aD [h 18 9]<|.lt 3 (.min) [h3 20,jI 20]<|.lt 9 (.sub) [h 18 9,jI 0,h3 21]<|.ret [h3 11,h3 12,h3 13,h3 14,h3 15,h3 16,h3 17,h 22 9,h 10 20]
def B0N{G}(f:K2 G):L8 prog G 35 [.a [3,3,3,3,3,3,3,9,20]] yD [.a [3,3,3,3,3,3,3,9,20]]:=by
 refine G3 (d:=60) A5z (cxg (B2G.2 f) (A3g f)) f ⟨f35,_,func35,rfl⟩ C4 C4 ?_;intro us outs c;unfold yD at c;split at c
 .skip;rename_i q B w h A y t p8 o;have k:=A7.1 c;clear c;obtain⟨l,b,c⟩:=k;replace b:=F7 b;subst b;split at c
  .rename_i n;cases c;unfold A5z;refine w0 (.cons 8 _ (.cons 7 _ (.cons 6 _ (.cons 5 _ (.cons 4 _ (.cons 3 _ (.cons 2 _ (.cons 1 _ (.cons 0 _ (.nil)))))))))) ?_;repeat (first|refine w2 (.nilw 10) (r:=rG) (e:=tB rfl) (k':=?_)|(refine w3 yE (e:=xB _ _ _ _ _ _ _ _ _ _ _ ⟨F0,F0,A2,F0,n.2.1,n.2.2⟩) (k':=?_);show Wk _ _ (.cons _ _ (.cons _ _ (.cons _ _ (.cons _ _ (.cons _ _ (.cons _ _ (.cons _ _ (.cons _ _ (.cons _ _ (.cons _ _ _)))))))))))|refine iX ?_|refine A34 ?_|refine w1 (.sub) (e:=eC _ _ _ _ _ A2 A2 A2) (k':=?_)|(refine w7 [.int .i64 _,.int .i64 _,.int .i64 _,.int .i64 _,.int .i64 _,.int .i64 _,.int .i64 _,.str _,B9 rG _] ?_;rotate_left))
   all_goals
    first|rfl
  .cases c
 .cases c
def bnL(l:Option (List Gt))(g:Gt)(at_:Int):Option (List Gt):=if 0<((el (P5 (some []) l)).length:Int)then JY (P5 (some []) l) (at_%((el (P5 (some []) l)).length:Int)).toNat g else P5 (some []) l
def A2w(l:Option (List Gt)):el (P5 (some []) l)=el l:=by rw[eD];rfl
def B4C{l:Option (List Gt)}(h:¬0<((el (P5 (some []) l)).length:Int)):bnL l g at_=P5 (some []) l:=A8 h
def B1y{l:Option (List Gt)}(h:0<((el (P5 (some []) l)).length:Int)):bnL l g at_=JY (P5 (some []) l) (at_%((el (P5 (some []) l)).length:Int)).toNat g:=B0 h
def A78{l:Option (List Gt)}(h:∀ x ∈ el l,gOk x)(c:gOk g)(b:((el l).length:Int)<=140737488351232):((el (bnL l g at_)).length:Int)<=140737488351232/\∀ x ∈ el (bnL l g at_),gOk x:=by
 unfold bnL;split
 .rw[xJ,A2w];refine⟨by rw[P7];exact b,fun x hx=>?_⟩;rcases fU hx with hx|rfl
  .exact h x hx
  .exact c
 .rw[A2w];exact⟨b,h⟩
def B1x{l:Option (List Gt)}(p:Int)(hp:p<=140737488351232)(h:∀ x ∈ el l,gOk x)(d:gOk g)(c:((el l).length:Int)<=140737488351232)(b:0<((el (P5 (some []) l)).length:Int)):p<=140737488351232/\((el (JY (P5 (some []) l) (at_%((el (P5 (some []) l)).length:Int)).toNat g)).length:Int)<=140737488351232/\∀ x ∈ el (JY (P5 (some []) l) (at_%((el (P5 (some []) l)).length:Int)).toNat g),gOk x:=by
 rw[<- B1y b];exact⟨hp,A78 h d c⟩
def B1z{l:Option (List Gt)}(p:Int)(hp:p<=140737488351232)(h:∀ x ∈ el l,gOk x)(b:((el l).length:Int)<=140737488351232):p<=140737488351232/\((el (P5 (some []) l)).length:Int)<=140737488351232/\∀ x ∈ el (P5 (some []) l),gOk x:=by
 rw[A2w];exact⟨hp,b,h⟩
def B3j{a n:Int}(h:0<n)(g:¬(0<=a%n/\a%n<n)):False:=g ⟨q8 _ A2,t6 _ h⟩
noncomputable def B2x:P2:=⟨_,fun b=>(.cons (B0N b) .nil)⟩
def EX:List U->Option (Nat×List U)
 | [.int .i64 p1,.int .i64 p2,.int .i64 p3,.int .i64 p4,.int .i64 p5,.int .i64 p6,.int .i64 p7,.str p8,u_l,.int .i64 z1,.int .i64 z2,.int .i64 z3,.int .i64 z4,.int .i64 z5,.int .i64 z6,.int .i64 z7,.str z8,.str zc,.bool zr,.int .u8 at_]=>(I0 rG u_l).bind fun l=>if(p8.length:Int)<=140737488351232/\((el l).length:Int)<=1000000000/\(∀ g ∈ el l,gOk g)/\gOk (z1,z2,z3,z4,z5,z6,z7,z8,zc,zr)/\0<=at_/\at_<256 then some (0,[.int .i64 (p1),.int .i64 (p2),.int .i64 (p3),.int .i64 (p4),.int .i64 (p5),.int .i64 (p6),.int .i64 (p7),.str (shT p8),B9 rG (shL (el (bnL l (z1,z2,z3,z4,z5,z6,z7,z8,zc,zr) at_)))])else none
 | _=>none
def A5c(k:Int)(w:Int)(r:Int)(t:Int)(o:Int)(n:Int)(q:Int)(p8:B1)(l:(Option (List (Int×Int×Int×Int×Int×Int×Int×B1×B1×Bool))))(c:Int)(z2:Int)(z3:Int)(z4:Int)(z5:Int)(f:Int)(b:Int)(d:B1)(e:B1)(zr:Bool)(at_:Int)(y:(p8.length:Int)<=140737488351232/\((el l).length:Int)<=1000000000/\(∀ g ∈ el l,gOk g)/\gOk (c,z2,z3,z4,z5,f,b,d,e,zr)/\0<=at_/\at_<256):EX [.int .i64 k,.int .i64 w,.int .i64 r,.int .i64 t,.int .i64 o,.int .i64 n,.int .i64 q,.str p8,B9 rG l,.int .i64 c,.int .i64 z2,.int .i64 z3,.int .i64 z4,.int .i64 z5,.int .i64 f,.int .i64 b,.str d,.str e,.bool zr,.int .u8 at_]=some (0,[.int .i64 (k),.int .i64 (w),.int .i64 (r),.int .i64 (t),.int .i64 (o),.int .i64 (n),.int .i64 (q),.str (shT p8),B9 rG (shL (el (bnL l (c,z2,z3,z4,z5,f,b,d,e,zr) at_)))]):=by
 simp only[EX,G2,D8];exact B0 y
def A79:Tr:=.dt 20 (.mk 10) []<|.dt 20 (.cat 10) [h 20 20,h 8 20]<|aD [h 21 20]<|aG [h3 22,jI 0]<|.br 23 (.lt 3 (.conv .i64) [h 19 4]<|.lt 3 (.bin .rem) [h3 24,h3 22]<|c8 25 21 26 (.dt 20 (.set 10 0) [h 21 20,h3 25,h3 9,h3 10,h3 11,h3 12,h3 13,h3 14,h3 15,h 16 9,h 17 9,h 18 8]<|.fn yD [h3 0,h3 1,h3 2,h3 3,h3 4,h3 5,h3 6,h 7 9,h 27 20] 9<|.ret [h3 28,h3 29,h3 30,h3 31,h3 32,h3 33,h3 34,h 35 9,h 36 20])) (.fn yD [h3 0,h3 1,h3 2,h3 3,h3 4,h3 5,h3 6,h 7 9,h 21 20] 9<|.ret [h3 24,h3 25,h3 26,h3 27,h3 28,h3 29,h3 30,h 31 9,h 32 20])
def BE{G}(f:K2 G):L8 prog G 12 [.a [3,3,3,3,3,3,3,9,20],.a [3,3,3,3,3,3,3,9,9,8],.s 4] EX [.a [3,3,3,3,3,3,3,9,20]]:=by
 refine G3 (d:=60) A79 (cxg (B2x.2 f) .nil) f ⟨f12,_,func12,rfl⟩ C4 C4 ?_;intro us outs c;unfold EX at c;split at c
 .skip;rename_i q H C D y t A p8 o h z2 z3 z4 z5 F w B E zr at_;have k:=A7.1 c;clear c;obtain⟨l,b,c⟩:=k;replace b:=F7 b;subst b;split at c
  .rename_i n;cases c;unfold A79;refine s0L ?_;show Tr.sav _ _ (.cons 19 _ (.cons 18 _ (.cons 17 _ (.cons 16 _ (.cons 15 _ (.cons 14 _ (.cons 13 _ (.cons 12 _ (.cons 11 _ (.cons 10 _ (.cons 9 _ (.cons 8 _ (.cons 7 _ (.cons 6 _ (.cons 5 _ (.cons 4 _ (.cons 3 _ (.cons 2 _ (.cons 1 _ (.cons 0 _ (.nil)))))))))))))))))))));refine Wk.s ?_;repeat (first|refine w4 (fun g=>?_) fun g=>?_|refine CM ?_|refine tO ?_|refine A8S ?_|refine w1 (.bin .rem) (e:=HX _ _ _ A2) (k':=?_)|(refine w3 yD (e:=A4B _ _ _ _ _ _ _ _ _ (by first|exact B1x _ n.1 n.2.2.1 n.2.2.2.1 A2 ‹_›|exact B1z _ n.1 n.2.2.1 A2)) (k':=?_);show Wk _ _ (.cons _ _ (.cons _ _ (.cons _ _ (.cons _ _ (.cons _ _ (.cons _ _ (.cons _ _ (.cons _ _ (.cons _ _ _))))))))))|(refine w7 [.int .i64 _,.int .i64 _,.int .i64 _,.int .i64 _,.int .i64 _,.int .i64 _,.int .i64 _,.str _,B9 rG _] ?_;rotate_left)|refine w2 (.mk 10) (r:=rG) (e:=mM [] rfl F0 rfl) (k':=?_)|refine w2 (.cat 10) (r:=rG) (e:=A5B rfl (by show 0+_<=_;omega)) (k':=?_)|refine bP ?_|refine wM ?_|refine d9 ?_|refine w2 (.set 10 0) (r:=rG) (e:=HW (_,_,_,_,_,_,_,_,_,_) rfl (A1 rfl) (by first|omega|exact q8 _ A2|exact t6 _ ‹_›) (by first|omega|exact q8 _ A2|exact t6 _ ‹_›) rfl) (k':=?_)|(refine w8 ?_;first|omega|exact B3j ‹_› ‹_›))
   all_goals
    first|(rw[B1y ‹_›];done)|(rw[B4C ‹_›];done)
  .cases c
 .cases c
def XL:List Gt:=[(1,37,0,0,0,0,0,[],[115,112,108,105,116,32,114,105,103,104,116],false),(1,34,0,0,0,0,0,[],[115,112,108,105,116,32,100,111,119,110],false),(1,120,0,0,0,0,0,[],[107,105,108,108],false),(1,1114113,0,0,0,0,0,[],[115,101,108,101,99,116,32,117,112],true),(1,1114114,0,0,0,0,0,[],[115,101,108,101,99,116,32,100,111,119,110],true),(1,1114115,0,0,0,0,0,[],[115,101,108,101,99,116,32,114,105,103,104,116],true),(1,1114116,0,0,0,0,0,[],[115,101,108,101,99,116,32,108,101,102,116],true),(1,1114113,4,0,0,0,0,[],[114,101,115,105,122,101,32,117,112,32,49],true),(1,1114114,4,0,0,0,0,[],[114,101,115,105,122,101,32,100,111,119,110,32,49],true),(1,1114115,4,0,0,0,0,[],[114,101,115,105,122,101,32,114,105,103,104,116,32,49],true),(1,1114116,4,0,0,0,0,[],[114,101,115,105,122,101,32,108,101,102,116,32,49],true),(1,111,0,0,0,0,0,[],[110,101,120,116,45,112,97,110,101],false),(1,122,0,0,0,0,0,[],[122,111,111,109],false),(1,61,0,0,0,0,0,[],[101,118,101,110],false),(1,99,0,0,0,0,0,[],[110,101,119,45,119,105,110,100,111,119],false),(1,110,0,0,0,0,0,[],[110,101,120,116,45,119,105,110,100,111,119],false),(1,112,0,0,0,0,0,[],[112,114,101,118,105,111,117,115,45,119,105,110,100,111,119],false),(1,48,0,0,0,0,0,[],[119,105,110,100,111,119,32,48],false),(1,49,0,0,0,0,0,[],[119,105,110,100,111,119,32,49],false),(1,50,0,0,0,0,0,[],[119,105,110,100,111,119,32,50],false),(1,51,0,0,0,0,0,[],[119,105,110,100,111,119,32,51],false),(1,52,0,0,0,0,0,[],[119,105,110,100,111,119,32,52],false),(1,53,0,0,0,0,0,[],[119,105,110,100,111,119,32,53],false),(1,54,0,0,0,0,0,[],[119,105,110,100,111,119,32,54],false),(1,55,0,0,0,0,0,[],[119,105,110,100,111,119,32,55],false),(1,56,0,0,0,0,0,[],[119,105,110,100,111,119,32,56],false),(1,57,0,0,0,0,0,[],[119,105,110,100,111,119,32,57],false),(1,1114125,0,0,0,0,0,[],[115,99,114,111,108,108,32,98,97,99,107,32,49,48],false),(1,100,0,0,0,0,0,[],[100,101,116,97,99,104],false)]
noncomputable def B2T:P2:=⟨_,fun b=>.nil⟩
def KJ:List U->Option (Nat×List U)
 | []=>some (0,[.int .i64 (1),.int .i64 (98),.int .i64 (4),.int .i64 (0),.int .i64 (0),.int .i64 (0),.int .i64 (0),.str ([]),B9 rG (some XL)])
 | _=>none
def A4Q :KJ []=some (0,[.int .i64 (1),.int .i64 (98),.int .i64 (4),.int .i64 (0),.int .i64 (0),.int .i64 (0),.int .i64 (0),.str ([]),B9 rG (some XL)]):=rfl
def yR{G}(b:K2 G):L8 prog G 13 [] KJ [.a [3,3,3,3,3,3,3,9,20]]:=by
 refine cN (d:=60) (cxg (B2T.2 b) .nil) b ⟨f13,_,func13,rfl⟩ ?_;intro us outs c;unfold KJ at c;split at c
 .cases c;exact⟨[],by kernel_rfl⟩
 .cases c
def rS:Rw B1:=r1 mR
def nmL:List B1:=[[85,112],[68,111,119,110],[82,105,103,104,116],[76,101,102,116],[69,110,100],[72,111,109,101],[70,49],[70,50],[70,51],[70,52],[73,110,115,101,114,116],[68,101,108,101,116,101],[80,97,103,101,85,112],[80,97,103,101,68,111,119,110],[70,53],[70,54],[70,55],[70,56],[70,57],[70,49,48],[70,49,49],[70,49,50],[69,110,116,101,114],[84,97,98],[66,97,99,107],[69,115,99,97,112,101]]
def A4C{R:Nat->Option Obj}{x:Option (List B1)}{vs:D2}(h:ShL R [.s 11,.s 9] [B9 rS x,.str sep] vs):∃ v,vs=[v,.string ⟨⟨sep⟩⟩]/\Enc R (B9 rS x) v:=by
 generalize hu:[B9 rS x,U.str sep]=us at h;cases h with
 | cons h1 c =>
   cases h1 with
   | s e t1 =>
     cases c with
     | cons h3 d =>
       cases h3 with
       | s b t2 =>
         cases d;simp only[S7,G9,R9,J6,and_true]at hu;obtain⟨rfl,rfl⟩:=hu
         have:=gJ b (show toV (.str sep)=some (.string ⟨⟨sep⟩⟩)from rfl);subst this;exact⟨_,rfl,e⟩
def A2u{R:Nat->Option Obj}{x:Option (List B1)}{v:Value}(h:Enc R (B9 rS x) v):(el x=[]/\∃ a c,v=.slice a 0 c)∨∃ a o c C T fz,v=.slice (some ⟨a,o,none⟩) (el x).length c/\(el x).length<=c/\(el x≠[]->R a=some (.cells C T fz))/\∀ (j:Nat) (s:B1),(el x)[j]? = some s->C[o+j]? = some (.string ⟨⟨s⟩⟩):=by
 rw[Q6]at h;generalize hu:U.seq _ _ _=u at h;cases h with
 | sc h=>subst hu;cases h
 | nil =>
   injection hu with h1 h2 h3
   exact .inl ⟨by simpa using h3,_,_,rfl⟩
 | emp =>
   injection hu with h1 h2 h3
   exact .inl ⟨by simpa using h3,_,_,rfl⟩
 | sl q y n hw h =>
   rename_i w rows a o c C T fz;injection hu with h1 h2 h3
   subst h3;have k:w=1:=h2.symm;subst k;have r:((el x).map rS.enc).length=(el x).length:=E7 ..;rw[r]at q n;refine .inr ⟨a,o,c,C,T,fz,by rw[r],q,fun f=>y (by simpa using f),fun j s d=>?_⟩;have f:(el x).map rS.enc≠[]:=by intro e;rw[List.map_eq_nil_iff.1 e]at d;cases d
   have t:j<(el x).length:=(B3.1 d).1;have n:=n f;have b:o+j<C.size:=A2
   have:=h j (rS.enc s) 0 (.str s) C[o+j] (by rw[F8,d];rfl) rfl (by rw[Nat.mul_one,jZ];exact F3 b);rw[F3 b,gJ this (show toV (.str s)=some (.string ⟨⟨s⟩⟩)from rfl)]
def jnS(x:Option (List B1))(sep:B1):B1:=Lib.join (el x) sep
def A1H(l:List B1):(l.map (fun s=>ByteArray.mk ⟨s⟩)).map (·.data.toList)=l:=by
 rw[kB];exact(dT fun _ _=>rfl).trans (List.map_id _)
def XG:List U->Option (Nat×List U)
 | [u_x,.str sep]=>(I0 rS u_x).bind fun x=>if((el x).length:Int)<=1000000/\(jnS x sep).length<=1000000000 then some (0,[.str (jnS x sep)])else none
 | _=>none
def A9J(x:(Option (List B1)))(sep:B1)(b:((el x).length:Int)<=1000000/\(jnS x sep).length<=1000000000):XG [B9 rS x,.str sep]=some (0,[.str (jnS x sep)]):=by
 simp only[XG,G2,D8];exact B0 b
def B3t{G}(h:K2 G):L8 prog G 93 [.s 11,.s 9] XG [.s 9]:=by
 intro us outs w vs R n b D hR;unfold XG at b;split at b
 .skip;rename_i t sep;have f:=A7.1 b;clear b;obtain⟨x,d,b⟩:=f;replace d:=F7 d;subst d;split at b
  .rename_i B;cases b;refine gN (vr:=[.string ⟨⟨jnS x sep⟩⟩]) func93 rfl C4 rfl ?_;obtain⟨v,rfl,hv⟩:=A4C n;rcases A2u hv with⟨h0,a,c,rfl⟩|⟨a,o,c,C,T,fz,rfl,h1,A,h3⟩
   .refine((Tryz.strings_Join_none a c ⟨⟨sep⟩⟩ w).mono fun e w' ⟨g1,g2⟩=>⟨?_,by subst g2;exact RowKit.Below.refl _ _⟩);rw[g1];unfold jnS;rw[h0];rfl
   .by_cases q:el x=[]
    .rw[q];refine((Tryz.strings_Join_none _ c ⟨⟨sep⟩⟩ w).mono fun e w' ⟨g1,g2⟩=>⟨?_,by subst g2;exact RowKit.Below.refl _ _⟩);rw[g1];unfold jnS;rw[q];rfl
    .have r:=A q;have hw:=hR _ _ r;have key:=Tryz.strings_Join a o c ((el x).map (fun s=>ByteArray.mk ⟨s⟩)) ⟨⟨sep⟩⟩ w (fun j y k=>?_) (hR.lt r) (by rw[E7];omega) (by rw[E7];exact h1) (by rw[A1H];show(jnS x sep).length<=_;have:=B.2;omega)
     .rw[E7]at key;refine(key.mono fun e w' ⟨g1,g2⟩=>⟨?_,g2⟩);rw[g1,A1H];rfl
     .rw[F8]at k;cases b:(el x)[j]? with
      | none=>rw[b]at k;cases k
      | some s =>
        rw[b]at k;cases k;simp only[World.cell?,hw];exact h3 j s b
  .cases b
 .cases b
noncomputable def B2Z:P2:=⟨_,fun b=>.nil⟩
def zB:List U->Option (Nat×List U)
 | []=>some (0,[B9 rS (some nmL)])
 | _=>none
def TB :zB []=some (0,[B9 rS (some nmL)]):=rfl
def A08{G}(b:K2 G):L8 prog G 89 [] zB [.s 11]:=by
 refine cN (d:=60) (cxg (B2Z.2 b) .nil) b ⟨f89,_,func89,rfl⟩ ?_;intro us outs c;unfold zB at c;split at c
 .cases c;exact⟨[],by kernel_rfl⟩
 .cases c
def UB(x:Option (List B1)):jnS x []=(el x).flatten:=by
 unfold jnS Lib.join;generalize el x=l;have h:∀ l:List B1,(List.intersperse [] l).flatten=l.flatten:=fun l=>by
  induction l with
  | nil=>rfl
  | cons a l c =>
    cases l with
    | nil=>rfl
    | cons b l=>rw[List.intersperse_cons_cons,P3,P3,c,P3 (l:=a)];rfl
 exact h l
noncomputable def B2i:P2:=⟨_,fun b=>(.cons (B3t b) .nil)⟩
def fD:List U->Option (Nat×List U)
 | [u_x]=>(I0 rS u_x).bind fun x=>if((el x).length:Int)<=1000000/\((el x).flatten.length:Int)<=1000000000 then some (0,[.str ((el x).flatten)])else none
 | _=>none
def UA(x:(Option (List B1)))(b:((el x).length:Int)<=1000000/\((el x).flatten.length:Int)<=1000000000):fD [B9 rS x]=some (0,[.str ((el x).flatten)]):=by
 simp only[fD,G2,D8];exact B0 b
def A7I:Tr:=.fn XG [h 0 11,.string ⟨⟨[]⟩⟩] 1<|.ret [h 1 9]
def A2A{G}(f:K2 G):L8 prog G 58 [.s 11] fD [.s 9]:=by
 refine G3 (d:=60) A7I (cxg (B2i.2 f) .nil) f ⟨f58,_,func58,rfl⟩ C4 C4 ?_;intro us outs c;unfold fD at c;split at c
 .skip;rename_i n;have k:=A7.1 c;clear c;obtain⟨x,b,c⟩:=k;replace b:=F7 b;subst b;split at c
  .rename_i o;cases c;unfold A7I;refine w0 (.cons 0 _ (.nil)) ?_;repeat (first|refine w31 XG (e:=A9J _ _ ⟨o.1,by rw[UB];omega⟩) (k':=?_)|(refine w7 [.str _] ?_;rotate_left))
   all_goals
    first|(rw[UB];done)
  .cases c
 .cases c
def KB:List U->Option (Nat×List U)
 | [.str s,.int .i64 c]=>if 0<=c/\c<=1000/\(s.length:Int)<=1000 then some (0,[.str (Lib.repeatL s c.toNat)])else none
 | _=>none
def A4K(s:B1)(c:Int)(b:0<=c/\c<=1000/\(s.length:Int)<=1000):KB [.str s,.int .i64 c]=some (0,[.str (Lib.repeatL s c.toNat)]):=B0 b
def B0T{G}(f:K2 G):L8 prog G 34 [.s 9,.s 3] KB [.s 9]:=by
 intro us outs w vs R d b q hR;unfold KB at b;split at b
 .skip;rename_i s c;split at b
  .rename_i r;cases b;have hv:=V3 (vs2:=[.string ⟨⟨s⟩⟩,.int .i64 c]) d rfl;subst hv;refine gN (vr:=[.string ⟨⟨Lib.repeatL s c.toNat⟩⟩]) func34 rfl C4 rfl ?_;obtain⟨n,rfl⟩:∃ n:Nat,c=n:=⟨c.toNat,A2⟩;have o:s.length*n<=140737488355328:=C6 (fO (show s.length<=1000 by omega) (show n<=1000 by omega)) F0;exact(Tryz.strings_Repeat ⟨⟨s⟩⟩ n w A2 o).mono fun e w' ⟨h1,k⟩=>⟨h1,k⟩
  .cases b
 .cases b
def JF:List U->Option (Nat×List U)
 | [.str s]=>if(s.length:Int)<=1000/\(∀ b ∈ s,b.toNat<128)then some (0,[.str (Lib.toUpperA s)])else none
 | _=>none
def A33(s:B1)(c:(s.length:Int)<=1000/\(∀ b ∈ s,b.toNat<128)):JF [.str s]=some (0,[.str (Lib.toUpperA s)]):=B0 c
def B0B{G}(f:K2 G):L8 prog G 107 [.s 9] JF [.s 9]:=by
 intro us outs w vs R d c q hR;unfold JF at c;split at c
 .skip;rename_i s;split at c
  .rename_i o;cases c;have hv:=V3 (vs2:=[.string ⟨⟨s⟩⟩]) d rfl;subst hv;refine gN (vr:=[.string ⟨⟨Lib.toUpperA s⟩⟩]) func107 rfl C4 rfl ?_;exact(Tryz.strings_ToUpper_ascii ⟨⟨s⟩⟩ w (by show s.length<=_;omega) (fun j b n=>by have:=o.2 b (D0 n);omega)).mono fun e w' ⟨h1,k⟩=>⟨h1,k⟩
  .cases c
 .cases c
def hU(d:Int):UInt8:=([48,49,50,51,52,53,54,55,56,57,65,66,67,68,69,70]:B1).getD d.toNat 0
def cA(c:Int):B1:=if c<65536 then[hU (c / 4096%16),hU (c / 256%16),hU (c / 16%16),hU (c%16)]else if c<1048576 then[hU (c / 65536%16),hU (c / 4096%16),hU (c / 256%16),hU (c / 16%16),hU (c%16)]else[hU (c / 1048576%16),hU (c / 65536%16),hU (c / 4096%16),hU (c / 256%16),hU (c / 16%16),hU (c%16)]
def bR(c:Int):B1:=if 1114113<=c then nmL.getD (c-1114113).toNat []else if c=32 then[83,112,97,99,101]else if c<=126 then[UInt8.ofNat c.toNat]else[85,43]++cA c
def cc{a b:UInt8}{l m:B1}(h:a=b)(k:l=m):a::l=b::m:=by rw[h,k]
def XE{n m:Nat}(h:Nat.ble n m=true):(n:Int)<=(m:Int):=bM.2 (A1 h)
def hx(d:Int):Int:=((([48,49,50,51,52,53,54,55,56,57,97,98,99,100,101,102,103,104,105,106,107,108,109,110,111,112,113,114,115,116,117,118,119,120,121,122]:B1).getD d.toNat 0).toNat:Int)
def uH(d:Int):0<=hx d/\hx d<128:=by
 unfold hx;rcases G1 d.toNat 36 with h|h
 .have k:∀ n:Nat,n<36->(([48,49,50,51,52,53,54,55,56,57,97,98,99,100,101,102,103,104,105,106,107,108,109,110,111,112,113,114,115,116,117,118,119,120,121,122]:B1).getD n 0).toNat<128:=F0
  have:=k _ h;omega
 .rw[B2,fV.2 h];decide
def U1(d:Int):0<=hx d/\hx d<256:=by have:=uH d;omega
def t8{d:Int}(h0:0<=d)(h1:d<16):Lib.upperB (UInt8.ofNat (hx d).toNat)=hU d:=by
 have k:∀ n:Nat,n<16->Lib.upperB (UInt8.ofNat (((([48,49,50,51,52,53,54,55,56,57,97,98,99,100,101,102,103,104,105,106,107,108,109,110,111,112,113,114,115,116,117,118,119,120,121,122]:B1).getD n 0).toNat:Int)).toNat)=([48,49,50,51,52,53,54,55,56,57,65,66,67,68,69,70]:B1).getD n 0:=F0;exact k d.toNat A2
def B1X{d:Int}(h0:0<=d)(h1:d<36):evU .idx [.str [48,49,50,51,52,53,54,55,56,57,97,98,99,100,101,102,103,104,105,106,107,108,109,110,111,112,113,114,115,116,117,118,119,120,121,122],.int .u64 d]=.int .u8 (hx d):=QV _ _ _ h0 (by show _<((36:Nat):Int);omega)
attribute [irreducible] hx
def YK(l:List Int):(Lib.toUpperA (iB l)).length=l.length:=by unfold Lib.toUpperA iB;rw[E7,E7]
def B3C(h:l.length<=6)(d:∀ x ∈ l,0<=x/\x<128):((iB l).length:Int)<=1000/\(∀ b ∈ iB l,b.toNat<128):=by
 unfold iB;refine⟨by rw[E7];omega,fun b e=>?_⟩;obtain⟨x,c,rfl⟩:=I6.1 e
 have:=d x c;show(UInt8.ofNat x.toNat).toNat<128;rw[UInt8.toNat_ofNat',d7 A2];omega
def B3F(h:l.length<=6):IntKind.i64.wrap (4-((Lib.toUpperA (iB l)).length:Int))=4-((Lib.toUpperA (iB l)).length:Int):=by
 rw[YK];exact iS A2 A2
def B3s(h:l.length<=6):((el (some [[85,43],Lib.repeatL [48] (max 0 (4-((Lib.toUpperA (iB l)).length:Int))).toNat,Lib.toUpperA (iB l)])).length:Int)<=1000000/\((el (some [[85,43],Lib.repeatL [48] (max 0 (4-((Lib.toUpperA (iB l)).length:Int))).toNat,Lib.toUpperA (iB l)])).flatten.length:Int)<=1000000000:=by
 refine⟨XE (m:=1000000) rfl,?_⟩;rw[O1];simp only[P3,cF,R9,D4,Lib.repeatL_length,YK,E6,Y5];omega
def B3L(h:l.length<=6):0<=max 0 (4-((Lib.toUpperA (iB l)).length:Int))/\max 0 (4-((Lib.toUpperA (iB l)).length:Int))<=1000/\((([48]:B1).length:Nat):Int)<=1000:=⟨A2,A2,XE (m:=1000) rfl⟩
def A8R(b:UInt8):0<=(b.toNat:Int)/\(b.toNat:Int)<256:=by have:=b.toNat_lt;omega
def A9t{c:Int}(h:1114113<=c):bR c=nmL.getD (c-1114113).toNat []:=B0 h
def RE{c:Int}(h:¬1114113<=c)(b:¬c=32)(h3:¬c<=126):bR c=[85,43]++cA c:=by unfold bR;rw[A8 h,A8 b,A8 h3]
def A9w{c:Int}(h:¬1114113<=c)(b:¬c=32)(h3:c<=126):bR c=[UInt8.ofNat c.toNat]:=by unfold bR;rw[A8 h,A8 b,B0 h3]
def A9u{c:Int}(b:c=32):bR c=[83,112,97,99,101]:=by subst b;rfl
def A3P{c:Int}(b:z=u)(hu:Lib.repeatL [48] (max 0 (4-(u.length:Int))).toNat++u=cA c)(d:bR c=[85,43]++cA c):(el (some [[85,43],Lib.repeatL [48] (max 0 (4-(z.length:Int))).toNat,z])).flatten=bR c:=by
 subst b;rw[d,<- hu,O1];simp only[P3,cF,R9]
def B4I{c:Int}(h0:0<=c)(h1:c<256):Lib.toUpperA (iB [hx (c / 16),hx (c%16)])=[hU (c / 16%16),hU (c%16)]:=by
 show[Lib.upperB (UInt8.ofNat (hx (c / 16)).toNat),Lib.upperB (UInt8.ofNat (hx (c%16)).toNat)]=_;rw[t8 (d:=c / 16) A2 A2,t8 (d:=c%16) A2 A2];exact cc (F4 hU A2) (cc (F4 hU A2) (rfl))
def B3_{c:Int}(h0:0<=c)(h1:c<256):Lib.repeatL [48] (max 0 (4-(([hU (c / 16%16),hU (c%16)]:B1).length:Int))).toNat++[hU (c / 16%16),hU (c%16)]=cA c:=by
 unfold cA;rw[B0 A2];rw[show c / 4096%16=0 by omega];rw[show c / 256%16=0 by omega];rfl
def B4H{c:Int}(h0:0<=c)(h1:c<4096):Lib.toUpperA (iB [hx (c / 16 / 16),hx (c / 16%16),hx (c%16)])=[hU (c / 256%16),hU (c / 16%16),hU (c%16)]:=by
 show[Lib.upperB (UInt8.ofNat (hx (c / 16 / 16)).toNat),Lib.upperB (UInt8.ofNat (hx (c / 16%16)).toNat),Lib.upperB (UInt8.ofNat (hx (c%16)).toNat)]=_;rw[t8 (d:=c / 16 / 16) A2 A2,t8 (d:=c / 16%16) A2 A2,t8 (d:=c%16) A2 A2];exact cc (F4 hU A2) (cc (F4 hU A2) (cc (F4 hU A2) (rfl)))
def B39{c:Int}(h0:0<=c)(h1:c<4096):Lib.repeatL [48] (max 0 (4-(([hU (c / 256%16),hU (c / 16%16),hU (c%16)]:B1).length:Int))).toNat++[hU (c / 256%16),hU (c / 16%16),hU (c%16)]=cA c:=by
 unfold cA;rw[B0 A2];rw[show c / 4096%16=0 by omega];rfl
def B4G{c:Int}(h0:0<=c)(h1:c<65536):Lib.toUpperA (iB [hx (c / 16 / 16 / 16),hx (c / 16 / 16%16),hx (c / 16%16),hx (c%16)])=[hU (c / 4096%16),hU (c / 256%16),hU (c / 16%16),hU (c%16)]:=by
 show[Lib.upperB (UInt8.ofNat (hx (c / 16 / 16 / 16)).toNat),Lib.upperB (UInt8.ofNat (hx (c / 16 / 16%16)).toNat),Lib.upperB (UInt8.ofNat (hx (c / 16%16)).toNat),Lib.upperB (UInt8.ofNat (hx (c%16)).toNat)]=_;rw[t8 (d:=c / 16 / 16 / 16) A2 A2,t8 (d:=c / 16 / 16%16) A2 A2,t8 (d:=c / 16%16) A2 A2,t8 (d:=c%16) A2 A2];exact cc (F4 hU A2) (cc (F4 hU A2) (cc (F4 hU A2) (cc (F4 hU A2) (rfl))))
def B38{c:Int}(h0:0<=c)(h1:c<65536):Lib.repeatL [48] (max 0 (4-(([hU (c / 4096%16),hU (c / 256%16),hU (c / 16%16),hU (c%16)]:B1).length:Int))).toNat++[hU (c / 4096%16),hU (c / 256%16),hU (c / 16%16),hU (c%16)]=cA c:=by
 unfold cA;rw[B0 A2];rfl
def B4F{c:Int}(h0:0<=c)(h1:c<1048576):Lib.toUpperA (iB [hx (c / 16 / 16 / 16 / 16),hx (c / 16 / 16 / 16%16),hx (c / 16 / 16%16),hx (c / 16%16),hx (c%16)])=[hU (c / 65536%16),hU (c / 4096%16),hU (c / 256%16),hU (c / 16%16),hU (c%16)]:=by
 show[Lib.upperB (UInt8.ofNat (hx (c / 16 / 16 / 16 / 16)).toNat),Lib.upperB (UInt8.ofNat (hx (c / 16 / 16 / 16%16)).toNat),Lib.upperB (UInt8.ofNat (hx (c / 16 / 16%16)).toNat),Lib.upperB (UInt8.ofNat (hx (c / 16%16)).toNat),Lib.upperB (UInt8.ofNat (hx (c%16)).toNat)]=_;rw[t8 (d:=c / 16 / 16 / 16 / 16) A2 A2,t8 (d:=c / 16 / 16 / 16%16) A2 A2,t8 (d:=c / 16 / 16%16) A2 A2,t8 (d:=c / 16%16) A2 A2,t8 (d:=c%16) A2 A2];exact cc (F4 hU A2) (cc (F4 hU A2) (cc (F4 hU A2) (cc (F4 hU A2) (cc (F4 hU A2) (rfl)))))
def B37{c:Int}(h0:0<=c)(h1:c<1048576)(b:65536<=c):Lib.repeatL [48] (max 0 (4-(([hU (c / 65536%16),hU (c / 4096%16),hU (c / 256%16),hU (c / 16%16),hU (c%16)]:B1).length:Int))).toNat++[hU (c / 65536%16),hU (c / 4096%16),hU (c / 256%16),hU (c / 16%16),hU (c%16)]=cA c:=by
 unfold cA;rw[A8 A2,B0 A2];rfl
def B4E{c:Int}(h0:0<=c)(h1:c<16777216):Lib.toUpperA (iB [hx (c / 16 / 16 / 16 / 16 / 16),hx (c / 16 / 16 / 16 / 16%16),hx (c / 16 / 16 / 16%16),hx (c / 16 / 16%16),hx (c / 16%16),hx (c%16)])=[hU (c / 1048576%16),hU (c / 65536%16),hU (c / 4096%16),hU (c / 256%16),hU (c / 16%16),hU (c%16)]:=by
 show[Lib.upperB (UInt8.ofNat (hx (c / 16 / 16 / 16 / 16 / 16)).toNat),Lib.upperB (UInt8.ofNat (hx (c / 16 / 16 / 16 / 16%16)).toNat),Lib.upperB (UInt8.ofNat (hx (c / 16 / 16 / 16%16)).toNat),Lib.upperB (UInt8.ofNat (hx (c / 16 / 16%16)).toNat),Lib.upperB (UInt8.ofNat (hx (c / 16%16)).toNat),Lib.upperB (UInt8.ofNat (hx (c%16)).toNat)]=_;rw[t8 (d:=c / 16 / 16 / 16 / 16 / 16) A2 A2,t8 (d:=c / 16 / 16 / 16 / 16%16) A2 A2,t8 (d:=c / 16 / 16 / 16%16) A2 A2,t8 (d:=c / 16 / 16%16) A2 A2,t8 (d:=c / 16%16) A2 A2,t8 (d:=c%16) A2 A2];exact cc (F4 hU A2) (cc (F4 hU A2) (cc (F4 hU A2) (cc (F4 hU A2) (cc (F4 hU A2) (cc (F4 hU A2) (rfl))))))
def B36{c:Int}(h0:0<=c)(h1:c<16777216)(b:1048576<=c):Lib.repeatL [48] (max 0 (4-(([hU (c / 1048576%16),hU (c / 65536%16),hU (c / 4096%16),hU (c / 256%16),hU (c / 16%16),hU (c%16)]:B1).length:Int))).toNat++[hU (c / 1048576%16),hU (c / 65536%16),hU (c / 4096%16),hU (c / 256%16),hU (c / 16%16),hU (c%16)]=cA c:=by
 unfold cA;rw[A8 A2,A8 A2];rfl
noncomputable def B2y:P2:=⟨_,fun b=>(.cons (A08 b) (.cons (A2A b) (.cons (B0T b) (.cons (B0B b) .nil))))⟩
def EZ:List U->Option (Nat×List U)
 | [.int .i64 c]=>if(32<=c/\c<=126)∨(160<=c/\c<=1114111)∨(1114113<=c/\c<=1114138)then some (0,[.str (bR c)])else none
 | _=>none
def A5d(c:Int)(b:(32<=c/\c<=126)∨(160<=c/\c<=1114111)∨(1114113<=c/\c<=1114138)):EZ [.int .i64 c]=some (0,[.str (bR c)]):=B0 b
def nI(a0:Nat):Tr:=.fn JF [h a0 9] 1<|aD [h (a0+1) 9]<|aS [jI 4,h3 (a0+2)]<|.lt 3 (.max) [jI 0,h3 (a0+3)]<|.fn KB [.string ⟨⟨[48]⟩⟩,h3 (a0+4)] 1<|.dt 11 (.mk 1) [.string ⟨⟨[85,43]⟩⟩,h (a0+5) 9,h (a0+1) 9]<|.fn fD [h (a0+6) 11] 1<|.ret [h (a0+7) 9]
def wX(a0:Nat)(b:Nat)(d c:Tr):Tr:=.lt 7 (.bin .and) [h a0 7,.int .u64 (15)]<|.lt 4 (.idx) [.string ⟨⟨[48,49,50,51,52,53,54,55,56,57,97,98,99,100,101,102,103,104,105,106,107,108,109,110,111,112,113,114,115,116,117,118,119,120,121,122]⟩⟩,h b 7]<|.lt 7 (.bin .shr) [h a0 7,.int .u64 (4)]<|aH [h (b+2) 7,.int .u64 (16)]<|.br (b+3) d c
def A7_:Tr:=K9 0 1 1114113 (.fn zB [] 1<|aS [h3 0,jI 1114113]<|dX 2 3 4 (.lt 9 (.get 1 0) [h 2 11,h3 3]<|.ret [h 5 9])) (J9 0 2 32 (.ret [.string ⟨⟨[83,112,97,99,101]⟩⟩]) (S1 0 3 126 (.lt 4 (.conv .u8) [h3 0]<|.lt 9 (.mks) [h 4 4]<|.ret [h 5 9]) (.lt 7 (.conv .u64) [h3 0]<|aL [h3 0,jI 0]<|.br 5 (.no) (aH [h 4 7,.int .u64 (16)]<|.br 6 (wX 4 7 (wX 9 11 (wX 13 15 (wX 17 19 (.lt 7 (.bin .and) [h 21 7,.int .u64 (15)]<|.lt 4 (.idx) [.string ⟨⟨[48,49,50,51,52,53,54,55,56,57,97,98,99,100,101,102,103,104,105,106,107,108,109,110,111,112,113,114,115,116,117,118,119,120,121,122]⟩⟩,h 23 7]<|.lt 7 (.bin .shr) [h 21 7,.int .u64 (4)]<|aH [h 25 7,.int .u64 (16)]<|.br 26 (.no) (.lt 4 (.idx) [.string ⟨⟨[48,49,50,51,52,53,54,55,56,57,97,98,99,100,101,102,103,104,105,106,107,108,109,110,111,112,113,114,115,116,117,118,119,120,121,122]⟩⟩,h 25 7]<|.lt 9 (.mks) [h 27 4,h 24 4,h 20 4,h 16 4,h 12 4,h 8 4]<|nI 28)) (.lt 4 (.idx) [.string ⟨⟨[48,49,50,51,52,53,54,55,56,57,97,98,99,100,101,102,103,104,105,106,107,108,109,110,111,112,113,114,115,116,117,118,119,120,121,122]⟩⟩,h 21 7]<|.lt 9 (.mks) [h 23 4,h 20 4,h 16 4,h 12 4,h 8 4]<|nI 24)) (.lt 4 (.idx) [.string ⟨⟨[48,49,50,51,52,53,54,55,56,57,97,98,99,100,101,102,103,104,105,106,107,108,109,110,111,112,113,114,115,116,117,118,119,120,121,122]⟩⟩,h 17 7]<|.lt 9 (.mks) [h 19 4,h 16 4,h 12 4,h 8 4]<|nI 20)) (.lt 4 (.idx) [.string ⟨⟨[48,49,50,51,52,53,54,55,56,57,97,98,99,100,101,102,103,104,105,106,107,108,109,110,111,112,113,114,115,116,117,118,119,120,121,122]⟩⟩,h 13 7]<|.lt 9 (.mks) [h 15 4,h 12 4,h 8 4]<|nI 16)) (.lt 4 (.idx) [.string ⟨⟨[48,49,50,51,52,53,54,55,56,57,97,98,99,100,101,102,103,104,105,106,107,108,109,110,111,112,113,114,115,116,117,118,119,120,121,122]⟩⟩,h 9 7]<|.lt 9 (.mks) [h 11 4,h 8 4]<|nI 12)) (.lt 4 (.idx) [.string ⟨⟨[48,49,50,51,52,53,54,55,56,57,97,98,99,100,101,102,103,104,105,106,107,108,109,110,111,112,113,114,115,116,117,118,119,120,121,122]⟩⟩,h 4 7]<|.lt 9 (.mks) [h 7 4]<|nI 8)))))
def B10{G}(n:K2 G):L8 prog G 84 [.s 3] EZ [.s 9]:=by
 refine G3 (d:=60) A7_ (cxg (B2y.2 n) .nil) n ⟨f84,_,func84,rfl⟩ C4 C4 ?_;intro us outs f;unfold EZ at f;split at f
 .skip;rename_i c;split at f
  .rename_i o;cases f;have q:((el (some nmL)).length:Int)=26:=rfl;unfold A7_;refine w0 (.cons 0 _ (.nil)) ?_;repeat (first|refine w4 (fun g=>?_) fun g=>?_|refine w1 (.idx) (e:=B1X A2 A2) (k':=?_)|(refine w7 [.str _] ?_;rotate_left)|refine lE ?_|refine w31 JF (e:=A33 _ (B3C (A1 rfl) (by intro k b;simp only[B4,K7,or_false]at b;first|omega|(rcases b with rfl|rfl|rfl|rfl|rfl|rfl<;>exact uH _)|(rcases b with rfl|rfl|rfl|rfl|rfl<;>exact uH _)|(rcases b with rfl|rfl|rfl|rfl<;>exact uH _)|(rcases b with rfl|rfl|rfl<;>exact uH _)|(rcases b with rfl|rfl<;>exact uH _)))) (k':=?_)|refine iX ?_|refine w1 (.bin .sub) (e:=US (B3F (A1 rfl))) (k':=?_)|refine B3E ?_|refine w31 KB (e:=A4K _ _ (B3L (A1 rfl))) (k':=?_)|refine w2 (.mk 1) (r:=rS) (e:=mM [_,_,_] rfl F0 rfl) (k':=?_)|refine w31 fD (e:=UA _ (B3s (A1 rfl))) (k':=?_)|refine w1 (.bin .and) (e:=UX 4 16 F0 F0 F0) (k':=?_)|refine w1 (.bin .shr) (e:=UT 16 F0 F0) (k':=?_)|refine CM ?_|refine tO ?_|(refine w8 ?_;first|omega)|refine YL ?_|refine JG ?_|refine w1 (.mks) (e:=uM [_] (by intro k b;simp only[B4,K7,or_false]at b;first|omega|(rcases b with rfl|rfl|rfl|rfl|rfl|rfl<;>exact U1 _)|(rcases b with rfl|rfl|rfl|rfl|rfl<;>exact U1 _)|(rcases b with rfl|rfl|rfl|rfl<;>exact U1 _)|(rcases b with rfl|rfl|rfl<;>exact U1 _)|(rcases b with rfl|rfl<;>exact U1 _))) (k':=?_)|refine w31 zB (e:=TB) (k':=?_)|refine d9 ?_|refine w1 (.get 1 0) (u:=.str _) (e:=C5 rfl A2 A2 rfl) (k':=?_)|refine fS ?_|refine qJ ?_|refine q9 ?_|refine w1 (.mks) (e:=uM [_,_,_,_,_,_] (by intro k b;simp only[B4,K7,or_false]at b;first|omega|(rcases b with rfl|rfl|rfl|rfl|rfl|rfl<;>exact U1 _)|(rcases b with rfl|rfl|rfl|rfl|rfl<;>exact U1 _)|(rcases b with rfl|rfl|rfl|rfl<;>exact U1 _)|(rcases b with rfl|rfl|rfl<;>exact U1 _)|(rcases b with rfl|rfl<;>exact U1 _))) (k':=?_)|refine w1 (.mks) (e:=uM [_,_,_,_,_] (by intro k b;simp only[B4,K7,or_false]at b;first|omega|(rcases b with rfl|rfl|rfl|rfl|rfl|rfl<;>exact U1 _)|(rcases b with rfl|rfl|rfl|rfl|rfl<;>exact U1 _)|(rcases b with rfl|rfl|rfl|rfl<;>exact U1 _)|(rcases b with rfl|rfl|rfl<;>exact U1 _)|(rcases b with rfl|rfl<;>exact U1 _))) (k':=?_)|refine w1 (.mks) (e:=uM [_,_,_,_] (by intro k b;simp only[B4,K7,or_false]at b;first|omega|(rcases b with rfl|rfl|rfl|rfl|rfl|rfl<;>exact U1 _)|(rcases b with rfl|rfl|rfl|rfl|rfl<;>exact U1 _)|(rcases b with rfl|rfl|rfl|rfl<;>exact U1 _)|(rcases b with rfl|rfl|rfl<;>exact U1 _)|(rcases b with rfl|rfl<;>exact U1 _))) (k':=?_)|refine w1 (.mks) (e:=uM [_,_,_] (by intro k b;simp only[B4,K7,or_false]at b;first|omega|(rcases b with rfl|rfl|rfl|rfl|rfl|rfl<;>exact U1 _)|(rcases b with rfl|rfl|rfl|rfl|rfl<;>exact U1 _)|(rcases b with rfl|rfl|rfl|rfl<;>exact U1 _)|(rcases b with rfl|rfl|rfl<;>exact U1 _)|(rcases b with rfl|rfl<;>exact U1 _))) (k':=?_)|refine w1 (.mks) (e:=uM [_,_] (by intro k b;simp only[B4,K7,or_false]at b;first|omega|(rcases b with rfl|rfl|rfl|rfl|rfl|rfl<;>exact U1 _)|(rcases b with rfl|rfl|rfl|rfl|rfl<;>exact U1 _)|(rcases b with rfl|rfl|rfl|rfl<;>exact U1 _)|(rcases b with rfl|rfl|rfl<;>exact U1 _)|(rcases b with rfl|rfl<;>exact U1 _))) (k':=?_))
   all_goals
    first
    | (exfalso;omega)
    | exact F4 (fun z=>[U.str z]) (A9t ‹_›).symm
    | exact F4 (fun z=>[U.str z]) (A9u ‹_›).symm
    | (rw[A9w ‹_› ‹_› ‹_›];rfl)
    | exact F4 (fun z=>[U.str z]) (A3P (B4I A2 A2) (B3_ A2 A2) (RE ‹_› ‹_› ‹_›))
    | exact F4 (fun z=>[U.str z]) (A3P (B4H A2 A2) (B39 A2 A2) (RE ‹_› ‹_› ‹_›))
    | exact F4 (fun z=>[U.str z]) (A3P (B4G A2 A2) (B38 A2 A2) (RE ‹_› ‹_› ‹_›))
    | exact F4 (fun z=>[U.str z]) (A3P (B4F A2 A2) (B37 A2 A2 A2) (RE ‹_› ‹_› ‹_›))
    | exact F4 (fun z=>[U.str z]) (A3P (B4E A2 A2) (B36 A2 A2 A2) (RE ‹_› ‹_› ‹_›))
  .cases f
 .cases f
end
section
open Go Go.Sx Go.Proofs.Tryz
def dO(x:Xt):B1:=(if x.2.2.1 / 4%2*4=0 then[]else[67,45])++((if x.2.2.1 / 2%2*2=0 then[]else[77,45])++((if x.2.2.1 / 1%2*1=0 then[]else[83,45])++bR x.2.1))
def UL(c:Int):(cA c).length<=6:=by
 unfold cA
 (repeat' split)<;>exact A1 rfl
def A80:∀ n:Nat,(nmL.getD n []).length<=8:=by
 intro n;rcases G1 n 26 with h|h
 .have k:∀ n:Nat,n<26->(nmL.getD n []).length<=8:=F0;exact k n h
 .rw[B2,fV.2 h];decide
def A9v(c:Int):(bR c).length<=8:=by
 unfold bR;split
 .exact A80 _
 .split
  .decide
  .split
   .exact A1 rfl
   .have:=UL c;rw[D4];show 2+_<=8;omega
def cR(c:Int):Prop:=(32<=c/\c<=126)∨(160<=c/\c<=1114111)∨(1114113<=c/\c<=1114138)
instance(c:Int):Decidable (cR c):=by unfold cR;infer_instance
def A9G{c:Int}(h:aB c m):cR c:=by unfold aB chP okU at h;unfold cR;omega
def A8K(h:xP x)(h1:x.1=1):aB x.2.1 x.2.2.1:=by
 unfold xP W7 at h;rcases h with h|h|h|h
 .exact h.2.2.2.2.2.2
 .omega
 .omega
 .omega
def A1S(h:kyP x):cR x.2.1:=A9G (A8K h.2 h.1)
def lT(x:Xt):Int:=if ¬xP x then 430 else if x.1≠1 then 2 else 0
def zC(x:Xt):B1:=if lT x=0 then dO x else[]
def B0l(h:(if xP x then(0:Int)else 430)≠0):[U.str [],U.int .i64 (if xP x then(0:Int)else 430)]=[U.str (zC x),U.int .i64 (lT x)]:=by
 have k:=A8L h;have e:lT x=430:=by unfold lT;rw[B0 k]
 unfold zC;rw[A8 k,e,A8 F0]
def B0k(h:¬(if xP x then(0:Int)else 430)≠0)(h1:x.1≠1):[U.str [],U.int .i64 2]=[U.str (zC x),U.int .i64 (lT x)]:=by
 have e:lT x=2:=by unfold lT;rw[A8 (fun k=>k (YD h)),B0 h1]
 unfold zC;rw[e,A8 F0]
def B0j(h:¬(if xP x then(0:Int)else 430)≠0)(h1:¬x.1≠1):[U.str (dO x),U.int .i64 0]=[U.str (zC x),U.int .i64 (lT x)]:=by
 have e:lT x=0:=by unfold lT;rw[A8 (fun k=>k (YD h)),A8 h1]
 unfold zC;rw[e,B0 rfl]
def B0m(h:¬(if xP x then(0:Int)else 430)≠0)(h1:¬x.1≠1):cR x.2.1:=A1S ⟨D3.1 h1,YD h⟩
noncomputable def B2a:P2:=⟨_,fun b=>(.cons (B10 b) (.cons (A2A b) .nil))⟩
def zD:List U->Option (Nat×List U)
 | [.int .i64 k,.int .i64 c,.int .i64 m,.int .i64 w,.int .i64 b,.int .i64 r,.int .i64 cl,.str t]=>if cR c then some (0,[.str (dO (k,c,m,w,b,r,cl,t))])else none
 | _=>none
def TE(k:Int)(c:Int)(m:Int)(w:Int)(b:Int)(r:Int)(cl:Int)(t:B1)(d:cR c):zD [.int .i64 k,.int .i64 c,.int .i64 m,.int .i64 w,.int .i64 b,.int .i64 r,.int .i64 cl,.str t]=some (0,[.str (dO (k,c,m,w,b,r,cl,t))]):=B0 d
def qH(a0:Nat)(b:Nat):Tr:=.fn EZ [h3 1] 1<|.dt 11 (.mk 1) [h a0 9,h b 9]<|.fn fD [h (b+1) 11] 1<|.ret [h (b+2) 9]
def A1D(n:Nat):Tr:=qH 15 n
def A1C(n:Nat):Tr:=.fn fD [h 16 11] 1<|qH n (n+1)
def A6v:Tr:=lD 2 4 8 (.dt 11 (.mk 1) [.string ⟨⟨[]⟩⟩,.string ⟨⟨[67,45]⟩⟩]<|.fn fD [h 10 11] 1<|lD 2 2 12 (.dt 11 (.mk 1) [h 11 9,.string ⟨⟨[77,45]⟩⟩]<|.fn fD [h 14 11] 1<|lD 2 1 16 (.dt 11 (.mk 1) [h 15 9,.string ⟨⟨[83,45]⟩⟩]<|.fn fD [h 18 11] 1<|qH 19 20) (A1D 18)) (lD 2 1 14 (.dt 11 (.mk 1) [h 11 9,.string ⟨⟨[83,45]⟩⟩]<|A1C 17) (qH 11 16))) (lD 2 2 10 (.dt 11 (.mk 1) [.string ⟨⟨[]⟩⟩,.string ⟨⟨[77,45]⟩⟩]<|.fn fD [h 12 11] 1<|lD 2 1 14 (.dt 11 (.mk 1) [h 13 9,.string ⟨⟨[83,45]⟩⟩]<|A1C 17) (qH 13 16)) (lD 2 1 12 (.dt 11 (.mk 1) [.string ⟨⟨[]⟩⟩,.string ⟨⟨[83,45]⟩⟩]<|.fn fD [h 14 11] 1<|A1D 16) (.fn EZ [h3 1] 1<|.dt 11 (.mk 1) [.string ⟨⟨[]⟩⟩,h 14 9]<|.fn fD [h 15 11] 1<|.ret [h 16 9])))
def A6w{G}(n:K2 G):L8 prog G 48 [.a [3,3,3,3,3,3,3,9]] zD [.s 9]:=by
 refine G3 (d:=60) A6v (cxg (B2a.2 n) .nil) n ⟨f48,_,func48,rfl⟩ C4 C4 ?_;intro us outs f;unfold zD at f;split at f
 .skip;rename_i k c m w b r cl t;split at f
  .rename_i o;cases f;have q:=A9v c;unfold A6v;refine w0 (.cons 7 _ (.cons 6 _ (.cons 5 _ (.cons 4 _ (.cons 3 _ (.cons 2 _ (.cons 1 _ (.cons 0 _ (.nil))))))))) ?_;repeat (first|refine w2 (.mk 1) (r:=rS) (e:=mM [_,_] rfl F0 rfl) (k':=?_)|refine w31 fD (e:=UA _ ⟨XE (m:=1000000) rfl,by simp only[O1,P3,cF,R9,G9,N1,D4,E6,Y5];omega⟩) (k':=?_)|refine w31 EZ (e:=A5d _ o) (k':=?_)|(refine w7 [.str _] ?_;rotate_left)|refine tN ?_|refine w4 (fun g=>?_) fun g=>?_|refine w1 (.bin .and) (e:=A5E _) (k':=?_)|refine w1 (.bin .and) (e:=A5D _) (k':=?_)|refine w1 (.bin .and) (e:=UW _) (k':=?_))
   all_goals
    refine F4 (fun z=>[U.str z]) ?_;unfold dO;first|rw[B0 (show m / 4%2*4=0 by omega)]|rw[A8 (show ¬m / 4%2*4=0 by omega)]
    first|rw[B0 (show m / 2%2*2=0 by omega)]|rw[A8 (show ¬m / 2%2*2=0 by omega)]
    first|rw[B0 (show m / 1%2*1=0 by omega)]|rw[A8 (show ¬m / 1%2*1=0 by omega)]
    simp only[O1,P3,cF,R9,G9,N1]<;>first|done|rfl
  .cases f
 .cases f
noncomputable def B2z:P2:=⟨_,fun b=>(.cons (A14 b) (.cons (A6w b) .nil))⟩
def A8F:List U->Option (Nat×List U)
 | [.int .i64 k,.int .i64 c,.int .i64 m,.int .i64 w,.int .i64 b,.int .i64 r,.int .i64 cl,.str t]=>if -9223372036854775808<=m/\m<=9223372036854775807/\(t.length:Int)<=140737488351232 then some (0,[.str (zC (k,c,m,w,b,r,cl,t)),.int .i64 (lT (k,c,m,w,b,r,cl,t))])else none
 | _=>none
def A8E:Tr:=.fn sG [h3 0,h3 1,h3 2,h3 3,h3 4,h3 5,h3 6,h 7 9] 1<|Z1 8 9 0 (.ret [.string ⟨⟨[]⟩⟩,h3 8]) (Z1 0 10 1 (.ret [.string ⟨⟨[]⟩⟩,jI 2]) (.fn zD [h3 0,h3 1,h3 2,h3 3,h3 4,h3 5,h3 6,h 7 9] 1<|.ret [h 11 9,jI 0]))
def B2_{G}(n:K2 G):L8 prog G 18 [.a [3,3,3,3,3,3,3,9]] A8F [.s 9,.s 3]:=by
 refine G3 (d:=60) A8E (cxg (B2z.2 n) .nil) n ⟨f18,_,func18,rfl⟩ C4 C4 ?_;intro us outs f;unfold A8F at f;split at f
 .skip;rename_i k c m w b r cl t;split at f
  .rename_i o;cases f;unfold A8E;refine w0 (.cons 7 _ (.cons 6 _ (.cons 5 _ (.cons 4 _ (.cons 3 _ (.cons 2 _ (.cons 1 _ (.cons 0 _ (.nil))))))))) ?_;repeat (first|(refine w7 [.str _,.int .i64 _] ?_;rotate_left)|refine tN ?_|refine w4 (fun g=>?_) fun g=>?_|refine w31 sG (e:=HG _ _ _ _ _ _ _ _ o) (k':=?_)|refine w31 zD (e:=TE _ _ _ _ _ _ _ _ (B0m (x:=(k,c,m,w,b,r,cl,t)) ‹_› ‹_›)) (k':=?_))
   all_goals
    first
    | exact B0l (x:=(k,c,m,w,b,r,cl,t)) ‹_›
    | exact B0k (x:=(k,c,m,w,b,r,cl,t)) ‹_› ‹_›
    | exact B0j (x:=(k,c,m,w,b,r,cl,t)) ‹_› ‹_›
  .cases f
 .cases f
def niF(s:B1)(a:B1):Bool:=decide (a=s)
def hD(b:UInt8):Int:=if 48<=b.toNat/\b.toNat<=57 then b.toNat-48 else if 65<=b.toNat/\b.toNat<=70 then b.toNat-55 else -1
def hR:B1->Int->Option Int
 | [],n=>some n
 | b::l,n=>if hD b<0 then none else hR l (16*n+hD b)
def hE(s:B1)(i n:Int):Option Unit:=match hR (s.drop i.toNat) n with
 | some _=>none
 | none=>some ()
def hV(s:B1)(i n:Int):Int:=(hR (s.drop i.toNat) n).getD 0
def EL(s:B1):Int:=match J3 (niF s) nmL 0 with
 | some j=>1114113+j
 | none=>if s=[83,112,97,99,101]then 32 else if s.length=1 then((s.getD 0 0).toNat:Int)else if s.length<6∨8<s.length∨s.take 2≠[85,43]then -1 else(hR (s.drop 2) 0).getD (-1)
def B3y(h:J3 (niF s) nmL 0=some j):EL s=1114113+j:=by unfold EL;rw[h]
def B1n(h:J3 (niF s) nmL 0=none):EL s=if s=[83,112,97,99,101]then 32 else if s.length=1 then((s.getD 0 0).toNat:Int)else if s.length<6∨8<s.length∨s.take 2≠[85,43]then -1 else(hR (s.drop 2) 0).getD (-1):=by unfold EL;rw[h]
def B0o(h:a=s):niF s a=true:=J7 h
def A0_(h:¬a=s):niF s a=false:=E3 h
def stp(p:B1)(v:Int)(a:B1×Int):B1×Int:=if 2<a.1.length/\a.1.take 2=p then(a.1.drop 2,a.2+v)else a
def kO(s:B1):Xt:=(1,EL (stp [83,45] 1 (stp [77,45] 2 (stp [67,45] 4 (s,0)))).1,(stp [83,45] 1 (stp [77,45] 2 (stp [67,45] 4 (s,0)))).2,0,0,0,0,[])
def X0:Xt:=(0,0,0,0,0,0,0,[])
def zQ(s:B1):Xt:=if kyP (kO s)/\dO (kO s)=s then kO s else X0
def CC(s:B1):Int:=if kyP (kO s)/\dO (kO s)=s then 0 else 6
def l9{d a2 a3 a4 a5 b c e f:Int}(h:x=(d,a2,a3,a4,a5,b,c,a8))(k:f=e):[U.int .i64 d,.int .i64 a2,.int .i64 a3,.int .i64 a4,.int .i64 a5,.int .i64 b,.int .i64 c,.str a8,.int .i64 e]=[U.int .i64 x.1,.int .i64 x.2.1,.int .i64 x.2.2.1,.int .i64 x.2.2.2.1,.int .i64 x.2.2.2.2.1,.int .i64 x.2.2.2.2.2.1,.int .i64 x.2.2.2.2.2.2.1,.str x.2.2.2.2.2.2.2,.int .i64 f]:=by subst h k;rfl
noncomputable def B2j:P2:=⟨_,fun b=>(.cons (A08 b) .nil)⟩
def sJ:List U->Option (Nat×List U)
 | [u_l,.str v,.int .i64 n,.int .i64 i]=>(I0 rS u_l).bind fun l=>if n=((el l).length:Int)/\0<=i/\i<=n/\n<=140737488351232 then X9 (J3 (niF v) ((el l).drop i.toNat) i) [] (fun j=>[.int .i64 j])else none
 | _=>none
def sI(l:(Option (List B1)))(v:B1)(n:Int)(i:Int)(b:n=((el l).length:Int)/\0<=i/\i<=n/\n<=140737488351232):sJ [B9 rS l,.str v,.int .i64 n,.int .i64 i]=X9 (J3 (niF v) ((el l).drop i.toNat) i) [] (fun j=>[.int .i64 j]):=by
 simp only[sJ,G2,D8];exact B0 b
def A2F:Q0:=⟨[(0,dat 17 0 11),(1,h 1 9),(7,h 2 3),(8,h 3 3)],[(17,.frz)],4,[⟨.exit 0,[],[],0⟩,⟨.ret,[(4,h 0 3)],[],1⟩]⟩
noncomputable def A2G:Code:=(f88.body).getD .skip
noncomputable def A7J:Code:=match G5 [true,false,true,false] A2G with|some (.loop x)=>x|_=>.skip
def A2E:f88.body=some A2G:=rfl
def A2B:G5 [true,false,true,false] A2G=some (.loop A7J):=C4
def A7K:Tr:=U7 3 2 4 (dX 0 3 5 (.lt 9 (.get 1 0) [h 0 11,h3 3]<|aE [h 1 9,h 6 9]<|.br 7 (.ret [jI 1,h3 3]) (aA [h3 3,jI 1]<|.ret [jI (-1),h 0 11,h 1 9,h3 2,h3 8]))) (I9 0)
def A2D:List U->Nat
 | [u_l,.str v,.int .i64 n,.int .i64 i]=>(match I0 rS u_l with|some l=>(n-i).toNat|none=>0)
 | _=>0
def A2C(l:(Option (List B1)))(v:B1)(n:Int)(i:Int):A2D [B9 rS l,.str v,.int .i64 n,.int .i64 i]=(n-i).toNat:=by
 simp only[A2D,G2]
def A7L{G}(o:K2 G):∀ (E:Nat->U) (base:Nat),@L9 ⟨E,G⟩ prog base gl f88.ntmps A7J (K5 prog gl n0 18 A2F sJ):=by
 refine P9 (dep:=60) (f:=88) (n0:=n0) (nB:=18) (H0:=H0) A2D A7K (cxg (B2j.2 o) .nil) o func88 A2E A2B C4 C4 C4 ?_;intro us d outs c;have r:=c;unfold sJ at c;split at c
 .skip;rename_i t v n i;have q:=A7.1 c;clear c;obtain⟨l,b,c⟩:=q;replace b:=F7 b;subst b;split at c
  .rename_i k;clear c r;refine⟨rfl,?_⟩;unfold A7K;refine w0 (.cons 3 _ (.cons 2 _ (.cons 1 _ (.cons 0 _ (.nil))))) ?_;repeat (first|refine w4 (fun g=>?_) fun g=>?_|refine aM ?_|refine U8 ?_|refine q9 ?_|refine d9 ?_|refine w1 (.get 1 0) (u:=.str _) (e:=C5 rfl A2 A2 rfl) (k':=?_)|refine OD ?_|(refine w7 [.int .i64 _,.int .i64 _] ?_;rotate_left)|(refine w7 [.int .i64 _,B9 rS _,.str _,.int .i64 _,.int .i64 _] ?_;rotate_left)|(refine w8 ?_;first|omega)|(refine w7 [.int .i64 _] ?_;rotate_left))
   all_goals first
    | refine L2 ?_ ?_
      .rw[sI l v n (i+1) ⟨k.1,A2,A2,k.2.2.2⟩,sI l v n i k,Z6 (i:=i) k.2.1 A2 (A0_ (fun h=>(by assumption:¬_=_) (by first|exact h|exact h.symm)))]
      .rw[A2C,A2C];omega
    | refine H9 (d:=0) ?_
      rw[sI l v n i k,x9 A2];rfl
    | refine H9 (d:=1) ?_
      rw[sI l v n i k,w9 (i:=i) k.2.1 A2 (B0o (by first|assumption|(symm;assumption)))];rfl
  .cases c
 .cases c
noncomputable def A3l:List LpE:=[(88,([true,false,true,false],K5 prog gl n0 18 A2F sJ))]
def wH{G}(b:K2 G):U2 prog G gl A3l:=(.cons func88 A2E A2B (A7L b) .nil)
def zG(c:Int):Int:=if c / 32%2=1 then c else c+32
def A86{c:Int}(h0:0<=c)(h1:c<=255):IntKind.u8.wrap ((BitVec.ofInt IntKind.u8.bits c ||| BitVec.ofInt IntKind.u8.bits 32).toNat)=zG c:=by
 obtain⟨n,rfl⟩:∃ n:Nat,c=n:=⟨c.toNat,A2⟩;have b:n<256:=A2;have:((List.range 256).all fun n=>decide (IntKind.u8.wrap ((BitVec.ofInt IntKind.u8.bits (n:Int) ||| BitVec.ofInt IntKind.u8.bits 32).toNat)=zG n))=true:=C4;exact H5 (D6.1 this n (W6.2 b))
noncomputable def B2b:P2:=⟨_,fun b=>.nil⟩
def zF:List U->Option (Nat×List U)
 | [.int .u8 c]=>if 0<=c/\c<=255 then some (0,[.int .u8 (zG c)])else none
 | _=>none
def A4j(c:Int)(b:0<=c/\c<=255):zF [.int .u8 c]=some (0,[.int .u8 (zG c)]):=B0 b
def A6y:Tr:=.lt 4 (.bin .or) [h 0 4,.int .u8 (32)]<|.ret [h 1 4]
def A6z{G}(b:K2 G):L8 prog G 126 [.s 4] zF [.s 4]:=by
 refine G3 (d:=60) A6y (cxg (B2b.2 b) (wH b)) b ⟨f126,_,func126,rfl⟩ C4 C4 ?_;intro us outs f;unfold zF at f;split at f
 .skip;rename_i c;split at f
  .rename_i k;cases f;unfold A6y;refine w0 (.cons 0 _ (.nil)) ?_;repeat (first|refine w1 (.bin .or) (e:=QU 8 256 128 F0 F0 A2 A2 A2 A2 A2) (k':=?_)|refine w1 (.bin .or) (e:=A2k 8 256 128 F0 F0 A2 A2 A2 A2 A2) (k':=?_)|refine w1 (.bin .or) (e:=QU 16 65536 128 F0 F0 A2 A2 A2 A2 A2) (k':=?_)|refine w1 (.bin .or) (e:=A2k 16 65536 128 F0 F0 A2 A2 A2 A2 A2) (k':=?_)|refine w1 (.bin .or) (e:=UU _ _ _) (k':=?_)|(refine w7 [.int .u8 _] ?_;rotate_left))
   all_goals
    exact F4 (fun z=>[U.int .u8 z]) (A86 k.1 k.2)
  .cases f
 .cases f
def EM:List U->Option (Nat×List U)
 | [.str s]=>if(s.length:Int)<=140737488351232 then some (0,[.str (s)])else none
 | _=>none
def A5V(s:B1)(b:(s.length:Int)<=140737488351232):EM [.str s]=some (0,[.str (s)]):=B0 b
def A7z{G}(d:K2 G):L8 prog G 143 [.s 9] EM [.s 9]:=by
 intro us outs w vs R c b e hR;unfold EM at b;split at b
 .skip;rename_i s;split at b
  .rename_i f;cases b;have hv:=V3 (vs2:=[.string ⟨⟨s⟩⟩]) c rfl;subst hv;refine gN (vr:=[.string ⟨⟨s⟩⟩]) func143 rfl C4 rfl ?_;exact Tryz.stringslite_Clone ⟨⟨s⟩⟩ w (by show s.length<=_;omega)
  .cases b
 .cases b
def hv(c:Int):Int:=if 48<=c/\c<=57 then c-48 else if 65<=c/\c<=70 then c-55 else if 97<=c/\c<=102 then c-87 else -1
def pu:List Int->Int->Option Int
 | [],n=>some n
 | c::l,n=>if hv c<0 then none else pu l (n*16+hv c)
def puE(l:List Int)(n:Int):Option Int:=match pu l n with
 | none=>some 0
 | some _=>none
def puV(l:List Int)(n:Int):Int:=(pu l n).getD 0
def A87{c:Int}(h0:0<=c)(h1:c<=255):0<=zG c/\zG c<=255:=by unfold zG;split<;>omega
def A9L{c:Int}(h0:0<=c)(h1:c<=255):hv c=if 48<=c/\c<=57 then c-48 else if 97<=zG c/\zG c<=102 then zG c-87 else -1:=by
 unfold hv zG;repeat' split;all_goals omega
def A4y(h:∀ x ∈ l,0<=x/\x<=255)(i:Nat):0<=l.getD i default/\l.getD i default<=255:=by
 rw[B2];cases hx:l[i]? with
 | none=>decide
 | some x=>exact h x (D0 hx)
def B0b{n:Int}(h0:0<=i)(h1:i<(l.length:Int)):pu (l.drop i.toNat) n=if hv (l.getD i.toNat default)<0 then none else pu (l.drop (i+1).toNat) (n*16+hv (l.getD i.toNat default)):=by
 rw[R4 l h0 h1];rfl
def A4U{n d:Int}(h0:0<=i)(h1:i<(l.length:Int))(b:hv (l.getD i.toNat default)=d)(c:0<=d):puE (l.drop i.toNat) n=puE (l.drop (i+1).toNat) (n*16+d)/\puV (l.drop i.toNat) n=puV (l.drop (i+1).toNat) (n*16+d):=by
 unfold puE puV;rw[B0b h0 h1,b,A8 A2];exact⟨rfl,rfl⟩
def A8s{n:Int}(h0:0<=i)(h1:i<(l.length:Int))(b:hv (l.getD i.toNat default)<0):puE (l.drop i.toNat) n=some 0:=by
 unfold puE;rw[B0b h0 h1,B0 b]
def A8t{n:Int}(h1:(l.length:Int)<=i):puE (l.drop i.toNat) n=none/\puV (l.drop i.toNat) n=n:=by
 unfold puE puV;rw[show l.drop i.toNat=[]from S4 A2];exact⟨rfl,rfl⟩
def A8v(h0:0<=i)(h1:i<6):(16:Int) ^ (i+1).toNat=16*16 ^ i.toNat/\(16:Int) ^ i.toNat<=1048576:=by
 obtain⟨n,rfl⟩:∃ n:Nat,i=n:=⟨i.toNat,A2⟩;have:n=0∨n=1∨n=2∨n=3∨n=4∨n=5:=A2;rcases this with rfl|rfl|rfl|rfl|rfl|rfl<;>decide
noncomputable def B2V:P2:=⟨_,fun b=>(.cons (A6z b) (.cons (A7z b) .nil))⟩
def oP:List U->Option (Nat×List U)
 | [.str z0,.int .u64 n,u_b,.int .i64 k,.int .i64 i]=>(I0 rB u_b).bind fun b=>if k=((el b).length:Int)/\0<=i/\i<=k/\k<=6/\(∀ x ∈ el b,0<=x/\x<=255)/\0<=n/\n<16 ^ i.toNat then X9 (puE ((el b).drop i.toNat) n) [.int .u64 (puV ((el b).drop i.toNat) n),.str z0] (fun j=>[.int .u64 j])else none
 | _=>none
def rM(z0:B1)(n:Int)(b:CG)(k:Int)(i:Int)(c:k=((el b).length:Int)/\0<=i/\i<=k/\k<=6/\(∀ x ∈ el b,0<=x/\x<=255)/\0<=n/\n<16 ^ i.toNat):oP [.str z0,.int .u64 n,B9 rB b,.int .i64 k,.int .i64 i]=X9 (puE ((el b).drop i.toNat) n) [.int .u64 (puV ((el b).drop i.toNat) n),.str z0] (fun j=>[.int .u64 j]):=by
 simp only[oP,G2,D8];exact B0 c
def A6g:Q0:=⟨[(1,.int .i64 (16)),(8,.bool false),(9,h 0 9),(10,.int .u64 (1152921504606846976)),(11,.int .u64 (4294967295)),(12,.bool false),(13,h 1 7),(99,own 19 2 11),(100,h 3 3),(101,h 4 3)],[(19,.sq 2 11 5 20),(20,.frz)],5,[⟨.exit 3,[(13,h 0 7),(12,.bool false),(9,h 1 9)],[],2⟩,⟨.ret,[(6,h 0 7),(7,.iface 174 (.int .i64 (2)))],[],1⟩]⟩
noncomputable def A0p:Code:=(f109.body).getD .skip
noncomputable def A6c:Code:=match G5 [true,true,true,true,true,true,true,true,true,true,true,false,true,false] A0p with|some (.loop x)=>x|_=>.skip
def A6f:f109.body=some A0p:=rfl
def A6e:G5 [true,true,true,true,true,true,true,true,true,true,true,false,true,false] A0p=some (.loop A6c):=C4
def A0m(n:Nat):Tr:=.fn zF [h 7 4] 1<|aQ [.int .u8 (97),h n 4]<|.br (n+1) (.fn zF [h 7 4] 1<|aQ [h (n+2) 4,.int .u8 (122)]<|.br (n+3) (.fn zF [h 7 4] 1<|.lt 4 (.bin .sub) [h (n+4) 4,.int .u8 (97)]<|.lt 4 (.bin .add) [h (n+5) 4,.int .u8 (10)]<|aH [h (n+6) 4,.int .u8 (16)]<|.br (n+7) (.ret [jI 1,.int .u64 (0)]) (aH [h 1 7,.int .u64 (1152921504606846976)]<|.br (n+8) (.no) (.lt 7 (.bin .mul) [h 1 7,.int .u64 (16)]<|.lt 7 (.conv .u64) [h (n+6) 4]<|.lt 7 (.bin .add) [h (n+9) 7,h (n+10) 7]<|aL [h (n+11) 7,h (n+9) 7]<|.br (n+12) (.no) (aG [h (n+11) 7,.int .u64 (4294967295)]<|.br (n+13) (.no) (aA [h3 4,jI 1]<|.ret [jI (-1),h 0 9,h (n+11) 7,h 2 11,h3 3,h3 (n+14)]))))) (.ret [jI 1,.int .u64 (0)])) (.ret [jI 1,.int .u64 (0)])
def A0l(n:Nat):Tr:=aQ [.int .u8 (48),h 7 4]<|.br n (aQ [h 7 4,.int .u8 (57)]<|.br (n+1) (.lt 4 (.bin .sub) [h 7 4,.int .u8 (48)]<|aH [h (n+2) 4,.int .u8 (16)]<|.br (n+3) (.ret [jI 1,.int .u64 (0)]) (aH [h 1 7,.int .u64 (1152921504606846976)]<|.br (n+4) (.no) (.lt 7 (.bin .mul) [h 1 7,.int .u64 (16)]<|.lt 7 (.conv .u64) [h (n+2) 4]<|.lt 7 (.bin .add) [h (n+5) 7,h (n+6) 7]<|aL [h (n+7) 7,h (n+5) 7]<|.br (n+8) (.no) (aG [h (n+7) 7,.int .u64 (4294967295)]<|.br (n+9) (.no) (aA [h3 4,jI 1]<|.ret [jI (-1),h 0 9,h (n+7) 7,h 2 11,h3 3,h3 (n+10)]))))) (A0m (n+2))) (A0m (n+1))
def A6d:Tr:=U7 4 3 5 (dX 2 4 6 (.lt 4 (.get 1 0) [h 2 11,h3 4]<|aE [h 7 4,.int .u8 (95)]<|.br 8 (A0l 9) (A0l 9))) (.ret [jI 0,h 1 7,h 0 9])
def A0o:List U->Nat
 | [.str z0,.int .u64 n,u_b,.int .i64 k,.int .i64 i]=>(match I0 rB u_b with|some b=>(k-i).toNat|none=>0)
 | _=>0
def A0n(z0:B1)(n:Int)(b:CG)(k:Int)(i:Int):A0o [.str z0,.int .u64 n,B9 rB b,.int .i64 k,.int .i64 i]=(k-i).toNat:=by
 simp only[A0o,G2]
def B0a{G}(t:K2 G):∀ (E:Nat->U) (base:Nat),@L9 ⟨E,G⟩ prog base gl f109.ntmps A6c (K5 prog gl n0 21 A6g oP):=by
 refine P9 (dep:=60) (f:=109) (n0:=n0) (nB:=21) (H0:=H0) A0o A6d (cxg (B2V.2 t) (wH t)) t func109 A6f A6e C4 C4 C4 ?_;intro us d outs r;have A:=r;unfold oP at r;split at r
 .skip;rename_i z0 n D k i;have w:=A7.1 r;clear r;obtain⟨b,o,r⟩:=w;replace o:=F7 o;subst o;split at r
  .rename_i c;clear r A;have y:=A4y c.2.2.2.2.1 i.toNat;have hh:=A9L y.1 y.2;have I:=A87 y.1 y.2;have B:=fun h=>A8v (i:=i) c.2.1 h
   refine⟨rfl,?_⟩;unfold A6d;refine w0 (.cons 4 _ (.cons 3 _ (.cons 2 _ (.cons 1 _ (.cons 0 _ (.nil)))))) ?_;repeat (first|refine w4 (fun g=>?_) fun g=>?_|refine aM ?_|refine U8 ?_|(refine w8 ?_;first|omega|(have B:=A8v (i:=i) c.2.1 A2;omega))|(refine w7 [.int .i64 _,.int .u64 _] ?_;rotate_left)|refine qJ ?_|refine YL ?_|refine JG ?_|refine lE ?_|refine B3D ?_|refine B0E ?_|refine CM ?_|refine tO ?_|refine w31 zF (e:=A4j _ A2) (k':=?_)|refine q9 ?_|refine wM ?_|(refine w7 [.int .i64 _,.str _,.int .u64 _,B9 rB _,.int .i64 _,.int .i64 _] ?_;rotate_left)|refine d9 ?_|refine w1 (.get 1 0) (u:=.int .u8 _) (e:=C5 rfl A2 A2 rfl) (k':=?_)|refine fS ?_|(refine w7 [.int .i64 _,.int .u64 _,.str _] ?_;rotate_left))
   all_goals first
    | refine L2 ?_ ?_
      .have B:=A8v (i:=i) c.2.1 A2;have H:∀ d,hv ((el b).getD i.toNat default)=d->0<=d->d<16->oP [.str z0,.int .u64 (n*16+d),B9 rB b,.int .i64 k,.int .i64 (i+1)]=oP [.str z0,.int .u64 n,B9 rB b,.int .i64 k,.int .i64 i]:=fun d F C h3=>by
        have q:=A4U (n:=n) c.2.1 (by omega:i<((el b).length:Int)) F C;rw[rM _ _ _ _ _ ⟨c.1,A2,A2,c.2.2.2.1,c.2.2.2.2.1,A2,A2⟩,rM _ _ _ _ _ c,q.1,q.2]
       exact H _ A2 A2 A2
      .rw[A0n,A0n];omega
    | refine H9 (d:=0) ?_
      have q:=A8t (n:=n) (by omega:((el b).length:Int)<=i);rw[rM _ _ _ _ _ c,q.1,q.2];rfl
    | refine H9 (d:=1) ?_
      rw[rM _ _ _ _ _ c,A8s c.2.1 A2 A2];rfl
  .cases r
 .cases r
noncomputable def A3k:List LpE:=[(109,([true,true,true,true,true,true,true,true,true,true,true,false,true,false],K5 prog gl n0 21 A6g oP)),(88,([true,false,true,false],K5 prog gl n0 18 A2F sJ))]
def NR{G}(b:K2 G):U2 prog G gl A3k:=(.cons func109 A6f A6e (B0a b) (.cons func88 A2E A2B (A7L b) .nil))
def puB(s:B1):Int:=if s=[]then -1 else(pu (bI s) 0).getD (-1)
def kN(s:B1):Int:=match J3 (niF s) nmL 0 with
 | some j=>1114113+j
 | none=>if s=[83,112,97,99,101]then 32 else if s.length=1 then((s.getD 0 0).toNat:Int)else if s.take 2=[85,43]/\s.length<=8 then puB (s.drop 2)else -1
def A7k{α:Type}{p:α->Bool}:∀ {l:List α} {i j:Int},J3 p l i=some j->i<=j/\j<i+l.length
 | [],i,j,h=>by cases h
 | a::l,i,j,h=>by
   unfold J3 at h;split at h
   .cases h;simp only[E6];omega
   .have:=A7k h;simp only[E6];omega
def A6s(h:J3 (niF s) (List.drop (0:Int).toNat (el (some nmL))) 0=some v):0<=v/\v<26:=by
 have:=A7k h;have e:((List.drop (0:Int).toNat (el (some nmL))).length:Int)=26:=rfl;omega
def B14(s:B1):∀ x ∈ el (some (bI s)),0<=x/\x<=255:=fun x h=>by have:=A3V (s:=s) h;omega
def B15{n:Int}(h:(s.length:Int)<=n):((el (some (bI s))).length:Int)<=n:=by show((bI s).length:Int)<=n;rw[RI];exact h
def B1o(h:J3 (niF s) nmL 0=some v):kN s=1114113+v:=by unfold kN;rw[h]
def XN(h:J3 (niF s) nmL 0=none):kN s=if s=[83,112,97,99,101]then 32 else if s.length=1 then((s.getD 0 0).toNat:Int)else if s.take 2=[85,43]/\s.length<=8 then puB (s.drop 2)else -1:=by unfold kN;rw[h]
def A6h:∀ {l:List Int} {n v:Int},0<=n->pu l n=some v->0<=v/\v<(n+1)*16 ^ l.length
 | [],n,v,h0,h=>by cases h;simp;omega
 | c::l,n,v,h0,h=>by
   unfold pu at h;split at h
   .cases h
   .have b:hv c<16:=by unfold hv;(repeat' split)<;>omega
    have q:=A6h A2 h;have hp:(0:Int)<=16 ^ l.length:=Int.le_of_lt (Int.pow_pos F0);have hm:=Int.mul_le_mul_of_nonneg_right (show n*16+hv c+1<=(n+1)*16 by omega) hp;rw[Int.mul_assoc]at hm;rw[E6,Int.pow_succ,Int.mul_comm ((16:Int) ^ l.length) 16];omega
def B3R(d:(s.length:Int)<=6)(h:puE (List.drop (0:Int).toNat (el (some (bI s)))) 0=none):IntKind.i64.wrap (puV (List.drop (0:Int).toNat (el (some (bI s)))) 0)=(pu (bI s) 0).getD (-1):=by
 have e:List.drop (0:Int).toNat (el (some (bI s)))=bI s:=rfl;rw[e]at h ⊢;unfold puE at h;unfold puV;cases b:pu (bI s) 0 with
 | none=>rw[b]at h;cases h
 | some v =>
   have q:=A6h F0 b;rw[RI]at q;have c:(16:Int) ^ s.length<=16 ^ 6:=by
    have:=dC (n:=16) F0 (show s.length<=6 by omega)
    exact_mod_cast this
   show IntKind.i64.wrap v=v;exact iS A2 A2
def B3Q(h:puE (List.drop (0:Int).toNat (el (some (bI s)))) 0=some j):(pu (bI s) 0).getD (-1) = -1:=by
 have e:List.drop (0:Int).toNat (el (some (bI s)))=bI s:=rfl;rw[e]at h;unfold puE at h;cases b:pu (bI s) 0 with
 | none=>rfl
 | some v=>rw[b]at h;cases h
def B0c(h:s=[]):puB s = -1:=B0 h
def A0q(h:¬s=[]):puB s=(pu (bI s) 0).getD (-1):=A8 h
def A9q(h:J3 (niF s) nmL 0=none)(h1:¬s=[83,112,97,99,101])(c:¬(s.length:Int)=1)(h3:¬¬List.take ((2:Int).toNat-(0:Int).toNat) (List.drop (0:Int).toNat s)=[85,43])(b:((List.drop (2:Int).toNat s).length:Int)<=6):kN s=puB (List.drop (2:Int).toNat s):=by
 rw[XN h,A8 h1,A8 A2,B0 ⟨D3.1 h3,by rw[E4]at b;simp at b;omega⟩];rfl
def A9p(h:J3 (niF s) nmL 0=none)(h1:¬s=[83,112,97,99,101])(b:¬(s.length:Int)=1)(h3:¬(s.take 2=[85,43]/\s.length<=8)):kN s = -1:=by
 rw[XN h,A8 h1,A8 A2,A8 h3]
def B31(h:J3 (niF s) nmL 0=none)(h1:¬s=[83,112,97,99,101])(b:(s.length:Int)=1):kN s=((s.getD 0 0).toNat:Int):=by
 rw[XN h,A8 h1,B0 A2]
def B30(h:¬2<=(s.length:Int)):¬(s.take 2=[85,43]/\s.length<=8):=fun k=>by have:=F4 List.length k.1;rw[G0]at this;simp at this;omega
def B3z(h:¬((List.drop (2:Int).toNat s).length:Int)<=6):¬(s.take 2=[85,43]/\s.length<=8):=fun k=>by rw[E4]at h;have:=k.2;simp at h;omega
noncomputable def B2t:P2:=⟨_,fun b=>(.cons (A08 b) (.cons (A6z b) (.cons (A7z b) .nil)))⟩
def NA:List U->Option (Nat×List U)
 | [.str s]=>if(s.length:Int)<=140737488351232 then some (0,[.int .i64 (kN s)])else none
 | _=>none
def A5T(s:B1)(b:(s.length:Int)<=140737488351232):NA [.str s]=some (0,[.int .i64 (kN s)]):=B0 b
def A3G(n:Nat):Tr:=aE [h 0 9,.string ⟨⟨[83,112,97,99,101]⟩⟩]<|.br n (I9 32) (aD [h 0 9]<|J9 (n+1) (n+2) 1 (.lt 4 (.idx) [h 0 9,jI 0]<|.lt 3 (.conv .i64) [h (n+3) 4]<|.ret [h3 (n+4)]) (I9 (-1)))
def aJ(a0:Int)(d:Nat)(a2:Nat)(c b:Tr):Tr:=aD [h d 9]<|aH [h3 a2,jI a0]<|.br (a2+1) c b
def A3F(n:Nat):Tr:=aJ 2 0 n (.lt 9 (.sub) [h 0 9,jI 0,jI 2]<|aE [h (n+2) 9,.string ⟨⟨[85,43]⟩⟩]<|M7 (n+3) (n+4) (A3G (n+5)) (.lt 9 (.sub1) [h 0 9,jI 2]<|aE [h 0 9,.string ⟨⟨[83,112,97,99,101]⟩⟩]<|.br (n+6) (I9 32) (aD [h 0 9]<|J9 (n+7) (n+8) 1 (.lt 4 (.idx) [h 0 9,jI 0]<|.lt 3 (.conv .i64) [h (n+9) 4]<|.ret [h3 (n+10)]) (aD [h (n+5) 9]<|S1 (n+9) (n+10) 6 (aE [h (n+5) 9,.string ⟨⟨[]⟩⟩]<|.br (n+11) (.fn EM [h (n+5) 9] 1<|I9 (-1)) (.dt 11 (.byt) [h (n+5) 9]<|aD [h (n+12) 11]<|.lp oP [h (n+5) 9,.int .u64 (0),h (n+12) 11,h3 (n+13),jI 0] 0 2 (.lt 3 (.conv .i64) [h (n+14) 7]<|.ret [h3 (n+16)]) (.lp oP [h (n+5) 9,.int .u64 (0),h (n+12) 11,h3 (n+13),jI 0] 1 1 (.fn EM [h (n+5) 9] 1<|I9 (-1)) (.no)))) (I9 (-1)))))) (A3G (n+2))
def A7x:Tr:=.fn zB [] 1<|aD [h 1 11]<|.lp sJ [h 1 11,h 0 9,h3 2,jI 0] 0 0 (A3F 3) (.lp sJ [h 1 11,h 0 9,h3 2,jI 0] 1 1 (K9 3 4 0 (aA [jI 1114113,h3 3]<|.ret [h3 5]) (A3F 5)) (.no))
def B1q{G}(b:K2 G):L8 prog G 51 [.s 9] NA [.s 3]:=by
 refine G3 (d:=60) A7x (cxg (B2t.2 b) (NR b)) b ⟨f51,_,func51,rfl⟩ C4 C4 ?_;intro us outs c;unfold NA at c;split at c
 .skip;rename_i s;split at c
  .rename_i f;cases c;have n:=A8R (s.getD (0:Int).toNat 0);unfold A7x;refine w0 (.cons 0 _ (.nil)) ?_;repeat (first|(refine w7 [.int .i64 _] ?_;rotate_left)|refine w4 (fun g=>?_) fun g=>?_|refine CM ?_|refine tO ?_|refine iX ?_|refine OD ?_|refine fS ?_|refine w1 (.idx) (e:=QV _ _ _ A2 A2) (k':=?_)|refine w31 EM (e:=A5V _ A2) (k':=?_)|refine bP ?_|refine lE ?_|refine w1 (.sub) (e:=eC _ _ _ _ _ A2 A2 A2) (k':=?_)|refine u5 ?_|refine w1 (.sub1) (e:=nZ _ _ _ A2 A2) (k':=?_)|refine qJ ?_|refine w2 (.byt) (r:=rB) (e:=A5C _ rfl) (k':=?_)|(refine w6 oP (rM _ _ _ _ _ ⟨by first|rfl,F0,by first|omega,by first|exact B15 ‹_›,by first|exact B14 _,F0,F0⟩) (h0:=fun g=>?_) (h1:=fun v g=>?_);show Wk _ _ (.cons _ _ (.cons _ _ _));rotate_left;show Wk _ _ (.cons _ _ _);rotate_right)|refine aM ?_|refine U8 ?_|refine w31 zB (e:=TB ) (k':=?_)|(refine w6 sJ (sI _ _ _ _ ⟨rfl,F0,by show(0:Int)<=26;decide,by show(26:Int)<=_;decide⟩) (h0:=fun g=>?_) (h1:=fun v g=>?_);skip;rotate_left;show Wk _ _ (.cons _ _ _);rotate_right))
   all_goals
    refine l0 ?_;symm;first
    | (exfalso;have:=A6s ‹_›;omega)
    | (have hv:=A6s ‹_›;rw[B1o ‹_›];first|done|(symm;exact iS A2 A2))
    | (rw[XN ‹_›,B0 ‹_›];done)
    | (rw[B31 ‹_› ‹_› ‹_›];first|rfl|(symm;exact iS A2 A2))
    | (rw[A9q ‹_› ‹_› ‹_› ‹_› ‹_›,B0c ‹_›];done)
    | (rw[A9q ‹_› ‹_› ‹_› ‹_› ‹_›,A0q ‹_›,B3R ‹_› ‹_›];done)
    | (rw[A9q ‹_› ‹_› ‹_› ‹_› ‹_›,A0q ‹_›,B3Q ‹_›];done)
    | exact A9p ‹_› ‹_› ‹_› (B30 ‹_›)
    | exact A9p ‹_› ‹_› ‹_› (B3z ‹_›)
    | exact A9p ‹_› ‹_› ‹_› (fun k=>(by assumption:¬List.take ((2:Int).toNat-(0:Int).toNat) (List.drop (0:Int).toNat s)=[85,43]) k.1)
  .cases c
 .cases c
def dQ(s:B1):Xt:=(1,kN (stp [83,45] 1 (stp [77,45] 2 (stp [67,45] 4 (s,0)))).1,(stp [83,45] 1 (stp [77,45] 2 (stp [67,45] 4 (s,0)))).2,0,0,0,0,[])
def kpO(s:B1):Xt:=if kyP (dQ s)/\dO (dQ s)=s then dQ s else X0
def kpE(s:B1):Int:=if kyP (dQ s)/\dO (dQ s)=s then 0 else 6
def B0x{X:Xt}(c:dQ s=X)(h1:kyP X)(b:¬dO X≠s):kpO s=X/\kpE s=0:=by
 unfold kpO kpE;rw[c,B0 ⟨h1,D3.1 b⟩,B0 ⟨h1,D3.1 b⟩];exact⟨rfl,rfl⟩
def B0z{X:Xt}(b:dQ s=X)(h1:¬kyP X):kpO s=X0/\kpE s=6:=by
 unfold kpO kpE;rw[b,A8 (fun k=>h1 k.1),A8 (fun k=>h1 k.1)];exact⟨rfl,rfl⟩
def B0y{X:Xt}(c:dQ s=X)(b:dO X≠s):kpO s=X0/\kpE s=6:=by
 unfold kpO kpE;rw[c,A8 (fun k=>b k.2),A8 (fun k=>b k.2)];exact⟨rfl,rfl⟩
def A8Y{p:B1}(v:Int)(h:¬2<=(s.length:Int)):stp p v (s,m)=(s,m):=A8 fun k=>h (by have:2<s.length:=k.1;omega)
def A8X{p:B1}(v:Int)(h:¬List.take ((2:Int).toNat-(0:Int).toNat) (List.drop (0:Int).toNat s)=p):stp p v (s,m)=(s,m):=A8 fun k=>h k.2
def A8W{p:B1}(v:Int)(h:List.drop (2:Int).toNat s=[]):stp p v (s,m)=(s,m):=A8 fun k=>by have:=F4 List.length h;rw[E4]at this;have h3:2<s.length:=k.1;simp at this;omega
def A8V{p:B1}(v:Int)(h:¬¬List.take ((2:Int).toNat-(0:Int).toNat) (List.drop (0:Int).toNat s)=p)(b:¬List.drop (2:Int).toNat s=[]):stp p v (s,m)=(List.drop (2:Int).toNat s,m+v):=B0 ⟨by show 2<s.length;exact Nat.lt_of_not_le fun k=>b (S4 k),D3.1 h⟩
noncomputable def B2Y:P2:=⟨_,fun b=>(.cons (B1q b) (.cons (A2V b) (.cons (A6w b) .nil)))⟩
def rR:List U->Option (Nat×List U)
 | [.str s]=>if(s.length:Int)<=140737488351232 then some (0,[.int .i64 ((kpO s).1),.int .i64 ((kpO s).2.1),.int .i64 ((kpO s).2.2.1),.int .i64 ((kpO s).2.2.2.1),.int .i64 ((kpO s).2.2.2.2.1),.int .i64 ((kpO s).2.2.2.2.2.1),.int .i64 ((kpO s).2.2.2.2.2.2.1),.str ((kpO s).2.2.2.2.2.2.2),.int .i64 (kpE s)])else none
 | _=>none
def SW(s:B1)(b:(s.length:Int)<=140737488351232):rR [.str s]=some (0,[.int .i64 ((kpO s).1),.int .i64 ((kpO s).2.1),.int .i64 ((kpO s).2.2.1),.int .i64 ((kpO s).2.2.2.1),.int .i64 ((kpO s).2.2.2.2.1),.int .i64 ((kpO s).2.2.2.2.2.1),.int .i64 ((kpO s).2.2.2.2.2.2.1),.str ((kpO s).2.2.2.2.2.2.2),.int .i64 (kpE s)]):=B0 b
def R2:Tr:=.ret [jI 0,jI 0,jI 0,jI 0,jI 0,jI 0,jI 0,.string ⟨⟨[]⟩⟩,jI 6]
def cH(a0:Int)(b:Nat):Tr:=.ret [jI 1,h3 b,jI a0,jI 0,jI 0,jI 0,jI 0,.string ⟨⟨[]⟩⟩,jI 0]
def cI(a0:Int)(b:Nat)(d c:Tr):Tr:=.fn zD [jI 1,h3 b,jI a0,jI 0,jI 0,jI 0,jI 0,.string ⟨⟨[]⟩⟩] 1<|aN [h (b+3) 9,h 0 9]<|.br (b+4) d c
def cJ(a0:Int)(d:Nat)(a2:Nat)(c b:Tr):Tr:=.fn NA [h d 9] 1<|.fn sO [jI 1,h3 a2,jI a0,jI 0,jI 0,jI 0,jI 0,.string ⟨⟨[]⟩⟩] 1<|aX [h (a2+1) 8]<|.br (a2+2) c b
def PH(n:Nat):Tr:=cJ 0 0 n R2 (cI 0 n R2 (cH 0 n))
def fY(a0:Int)(d:Nat)(a2:Nat)(c b:Tr):Tr:=.lt 9 (.sub1) [h d 9,jI a0]<|aN [h a2 9,.string ⟨⟨[]⟩⟩]<|.br (a2+1) c b
def wW(a0:Nat)(b:Nat)(d c:Tr):Tr:=.lt 9 (.sub) [h a0 9,jI 0,jI 2]<|aE [h b 9,.string ⟨⟨[83,45]⟩⟩]<|aX [h (b+1) 8]<|.br (b+2) d c
def PG(n:Nat):Tr:=aJ 2 0 n (wW 0 (n+2) (PH (n+5)) (fY 2 0 (n+5) (cJ 1 (n+5) (n+7) R2 (cI 1 (n+7) R2 (cH 1 (n+7)))) (PH (n+7)))) (PH (n+2))
def PF(n:Nat):Tr:=aJ 2 0 n (.lt 9 (.sub) [h 0 9,jI 0,jI 2]<|aE [h (n+2) 9,.string ⟨⟨[77,45]⟩⟩]<|M7 (n+3) (n+4) (PG (n+5)) (fY 2 0 (n+5) (aJ 2 (n+5) (n+7) (wW (n+5) (n+9) (cJ 2 (n+5) (n+12) R2 (cI 2 (n+12) R2 (cH 2 (n+12)))) (fY 2 (n+5) (n+12) (cJ 3 (n+12) (n+14) R2 (cI 3 (n+14) R2 (cH 3 (n+14)))) (cJ 2 (n+5) (n+14) R2 (cI 2 (n+14) R2 (cH 2 (n+14)))))) (cJ 2 (n+5) (n+9) R2 (cI 2 (n+9) R2 (cH 2 (n+9))))) (PG (n+7)))) (PG (n+2))
def PE(n:Nat):Tr:=cJ 4 6 n R2 (cI 4 n R2 (cH 4 n))
def PD(n:Nat):Tr:=aJ 2 6 n (wW 6 (n+2) (PE (n+5)) (fY 2 6 (n+5) (cJ 5 (n+5) (n+7) R2 (cI 5 (n+7) R2 (cH 5 (n+7)))) (PE (n+7)))) (PE (n+2))
def PC(n:Nat):Tr:=cJ 6 13 n R2 (cI 6 n R2 (cH 6 n))
def A6r:Tr:=aJ 2 0 1 (.lt 9 (.sub) [h 0 9,jI 0,jI 2]<|aE [h 3 9,.string ⟨⟨[67,45]⟩⟩]<|M7 4 5 (PF 6) (fY 2 0 6 (aJ 2 6 8 (.lt 9 (.sub) [h 6 9,jI 0,jI 2]<|aE [h 10 9,.string ⟨⟨[77,45]⟩⟩]<|M7 11 12 (PD 13) (fY 2 6 13 (aJ 2 13 15 (wW 13 17 (PC 20) (fY 2 13 20 (cJ 7 20 22 R2 (cI 7 22 R2 (cH 7 22))) (PC 22))) (PC 17)) (PD 15))) (PD 10)) (PF 8))) (PF 3)
def SX{G}(f:K2 G):L8 prog G 20 [.s 9] rR [.a [3,3,3,3,3,3,3,9],.s 3]:=by
 refine G3 (d:=60) A6r (cxg (B2Y.2 f) .nil) f ⟨f20,_,func20,rfl⟩ C4 C4 ?_;intro us outs c;unfold rR at c;split at c
 .skip;rename_i s;split at c
  .rename_i k;cases c;unfold A6r;refine w0 (.cons 0 _ (.nil)) ?_;repeat (first|refine w4 (fun g=>?_) fun g=>?_|refine w4B (fun g=>?_) fun g=>?_|(refine w7 [.int .i64 _,.int .i64 _,.int .i64 _,.int .i64 _,.int .i64 _,.int .i64 _,.int .i64 _,.str _,.int .i64 _] ?_;rotate_left)|refine u5 ?_|refine qG ?_|refine OC ?_|refine w31 NA (e:=A5T _ (by first|omega|(simp only[E4];omega))) (k':=?_)|refine w31 sO (e:=HM _ _ _ _ _ _ _ _ ⟨F0,F0,XE (m:=140737488351232) rfl⟩) (k':=?_)|refine w31 zD (e:=TE _ _ _ _ _ _ _ _ (A1S (x:=(1,kN _,_,0,0,0,0,[])) (D3.1 ‹_›))) (k':=?_)|refine iX ?_|refine lE ?_|refine w1 (.sub) (e:=eC _ _ _ _ _ A2 A2 (by first|omega|(simp only[E4]at *;omega))) (k':=?_)|refine OD ?_|refine w1 (.sub1) (e:=nZ _ _ _ A2 (by first|omega|(simp only[E4];omega))) (k':=?_))
   all_goals
    first
    | (exfalso;omega)
    | contradiction
    | (have b:dQ s=dQ s:=rfl
       conv at b=>rhs;unfold dQ
       first|rw[A8Y (p:=[67,45]) 4 ‹_›]at b|rw[A8X (p:=[67,45]) 4 ‹_›]at b|rw[A8W (p:=[67,45]) 4 (by first|assumption|exact D3.1 ‹_›)]at b|rw[A8V (p:=[67,45]) 4 ‹_› (by first|assumption|exact D3.1 ‹_›)]at b
       first|rw[A8Y (p:=[77,45]) 2 ‹_›]at b|rw[A8X (p:=[77,45]) 2 ‹_›]at b|rw[A8W (p:=[77,45]) 2 (by first|assumption|exact D3.1 ‹_›)]at b|rw[A8V (p:=[77,45]) 2 ‹_› (by first|assumption|exact D3.1 ‹_›)]at b
       first|rw[A8Y (p:=[83,45]) 1 ‹_›]at b|rw[A8X (p:=[83,45]) 1 ‹_›]at b|rw[A8W (p:=[83,45]) 1 (by first|assumption|exact D3.1 ‹_›)]at b|rw[A8V (p:=[83,45]) 1 ‹_› (by first|assumption|exact D3.1 ‹_›)]at b
       first
       | exact l9 (B0z b ‹_›).1 (B0z b ‹_›).2
       | exact l9 (B0y b ‹_›).1 (B0y b ‹_›).2
       | exact l9 (B0x b (D3.1 ‹_›) ‹_›).1 (B0x b (D3.1 ‹_›) ‹_›).2
)
  .cases c
 .cases c
def spl(c:UInt8):Nat->List B1->B1->Nat->List B1×B1×Nat
 | 0,a,s,i=>(a,s,i)
 | k+1,a,s,i=>if Lib.indexByte s c<0 then(a,s,i)else spl c k (a.set i (s.take (Lib.indexByte s c).toNat)) (s.drop ((Lib.indexByte s c).toNat+1)) (i+1)
def parts(s:B1)(c:UInt8):List B1 :=
 let n:=min (s.count c+1) (s.length+1)
 let r:=spl c (n-1) (List.replicate n []) s 0
 (r.1.set r.2.2 r.2.1).take (r.2.2+1)
def QR:∀ {s:B1} {c:UInt8},0<=Lib.indexByte s c->s=s.take (Lib.indexByte s c).toNat++c::s.drop ((Lib.indexByte s c).toNat+1)/\(Lib.indexByte s c).toNat<s.length/\s.count c=(s.drop ((Lib.indexByte s c).toNat+1)).count c+1
 | [],c,h=>by simp[Lib.indexByte]at h
 | b::l,c,h=>by
   have f:=Lib.indexByte_ge l c;unfold Lib.indexByte at h ⊢;split at h
   .rename_i d;rw[B0 d]
    have:=eq_of_beq d;subst this;simp
   .rename_i d;split at h
    .omega
    .rename_i h1;have h1:¬Lib.indexByte l c = -1:=by simpa using h1
     have k:0<=Lib.indexByte l c:=A2;obtain⟨i1,i2,i3⟩:=QR k;rw[A8 d,A8 (by simpa using h1)];have e:(Lib.indexByte l c+1).toNat=(Lib.indexByte l c).toNat+1:=A2;rw[e];refine⟨?_,?_,?_⟩
     .rw[List.take_succ_cons,List.drop_succ_cons,S7,<- i1]
     .rw[E6];omega
     .rw[List.drop_succ_cons,List.count_cons_of_ne (by simpa using d),i3]
def A2W:∀ {s:B1} {c:UInt8},Lib.indexByte s c<0->s.count c=0
 | [],_,_=>rfl
 | b::l,c,h=>by
   have d:=Lib.indexByte_ge l c;unfold Lib.indexByte at h;split at h
   .omega
   .rename_i e;split at h
    .rename_i h1;have h1:Lib.indexByte l c = -1:=by simpa using h1
     rw[List.count_cons_of_ne (by simpa using e),A2W A2]
    .omega
def m6(c:UInt8)(l:List B1):B1:=l.flatMap fun p=>p++[c]
def RZ{c:UInt8}:∀ (k:Nat) (a:List B1) (s:B1) (i:Nat),s.count c=k->i+k<a.length->∃ P t,spl c k a s i=(a.take i++P++a.drop (i+k),t,i+k)/\P.length=k/\s=m6 c P++t
 | 0,a,s,i,_,h2=>⟨[],s,by simp[spl],rfl,by simp[m6]⟩
 | k+1,a,s,i,h1,h2=>by
   have hi:0<=Lib.indexByte s c:=by
    by_cases h:Lib.indexByte s c<0
    .have:=A2W h;omega
    .omega
   obtain⟨o,q,r⟩:=QR hi;unfold spl;rw[A8 A2];obtain⟨P,t,d,b,e⟩:=RZ (c:=c) k (a.set i (s.take (Lib.indexByte s c).toNat)) (s.drop ((Lib.indexByte s c).toNat+1)) (i+1) A2 (by rw[P7];omega);refine⟨s.take (Lib.indexByte s c).toNat::P,t,?_,by rw[E6,b],?_⟩
   .rw[d];refine Prod.ext ?_ (Prod.ext rfl (by show i+1+k=i+(k+1);omega));show(a.set i _).take (i+1)++P++(a.set i _).drop (i+1+k)=a.take i++(_::P)++a.drop (i+(k+1));have f:i<a.length:=A2;rw[List.drop_set_of_lt A2,show i+1+k=i+(k+1) by omega,List.take_add_one,List.take_set_of_le (A6 _),S3 f];simp
   .have n:s=s.take (Lib.indexByte s c).toNat++c::(m6 c P++t):=by rw[<- e];exact o
    have:m6 c (s.take (Lib.indexByte s c).toNat::P)++t=s.take (Lib.indexByte s c).toNat++c::(m6 c P++t):=by simp[m6]
    rw[this];exact n
def tS(s:B1)(c:UInt8):∃ P t,parts s c=P++[t]/\P.length=s.count c/\s=m6 c P++t:=by
 have n:s.count c<=s.length:=dG;obtain⟨P,t,d,b,e⟩:=RZ (c:=c) (s.count c) (List.replicate (s.count c+1) []) s 0 rfl (by simp);refine⟨P,t,?_,b,e⟩;have hm:min (s.count c+1) (s.length+1)=s.count c+1:=A2;unfold parts;simp only[hm,Nat.add_sub_cancel];rw[d];have k:(List.replicate (s.count c+1) ([]:B1)).drop (0+s.count c)=[[]]:=by
  rw[List.drop_replicate];simp
 rw[k];simp only[List.take_zero,G9,F5];rw[<- b,List.set_append_right _ _ (A6 _)];have f:(P++[[]].set (P.length-P.length) t:List B1)=P++[t]:=by simp
 rw[f];exact List.take_of_length_le (by simp)
def eqC(c b:UInt8):Bool:=decide (b=c)
def B1b{c b:UInt8}(h:b=c):eqC c b=true:=J7 h
def B1c{c b:UInt8}(h:¬b=c):eqC c b=false:=E3 h
def fx(c:UInt8)(s:B1):Option Int:=J3 (eqC c) s 0
def A2b:∀ (s:B1) (c:UInt8) (i:Int),J3 (eqC c) s i=if Lib.indexByte s c = -1 then none else some (i+Lib.indexByte s c)
 | [],_,_=>rfl
 | b::l,c,i=>by
   have f:=Lib.indexByte_ge l c;show(if eqC c b=true then some i else J3 (eqC c) l (i+1))=_;by_cases e:b=c
   .have d:Lib.indexByte (b::l) c=0:=by rw[Lib.indexByte,B0 (beq_iff_eq.2 e)]
    rw[B0 (B1b e),d,A8 F0];simp
   .rw[A8 (by rw[B1c e];decide),A2b l c (i+1)];by_cases k:Lib.indexByte l c = -1
    .have d:Lib.indexByte (b::l) c = -1:=by rw[Lib.indexByte,A8 (by simpa using e),k];rfl
     rw[B0 k,d,B0 rfl]
    .have d:Lib.indexByte (b::l) c=Lib.indexByte l c+1:=by rw[Lib.indexByte,A8 (by simpa using e),A8 (by simpa using k)]
     rw[A8 k,d,A8 A2];congr 1;omega
def B3w{c:UInt8}(h:Lib.indexByte s c<0):fx c s=none:=by
 have b:=Lib.indexByte_ge s c;unfold fx;rw[A2b,B0 A2]
def B3v{c:UInt8}(h:¬Lib.indexByte s c<0):fx c s=some (Lib.indexByte s c):=by
 have b:=Lib.indexByte_ge s c;unfold fx;rw[A2b,A8 A2,Int.zero_add]
def sp(c:UInt8):B1->List B1
 | []=>[[]]
 | b::l=>if b=c then[]::sp c l else match sp c l with
   | x::r=>(b::x)::r
   | []=>[[b]]
def A5y{c:UInt8}:∀ {u:B1},(∀ x ∈ u,x≠c)->sp c u=[u]
 | [],_=>rfl
 | b::u,h=>by
   unfold sp;rw[A8 (h b (B5 ..)),A5y fun x hx=>h x (C7 _ hx)]
def ZD{c:UInt8}:∀ {u v:B1},(∀ x ∈ u,x≠c)->sp c (u++c::v)=u::sp c v
 | [],v,_=>by
   show(if c=c then[]::sp c v else _)=_;rw[B0 rfl]
 | b::u,v,h=>by
   show sp c (b::(u++c::v))=_;unfold sp;rw[A8 (h b (B5 ..)),ZD fun x hx=>h x (C7 _ hx)];cases v<;>rfl
def JS{c:UInt8}:∀ {P:List B1} {t:B1},(∀ p ∈ P,∀ x ∈ p,x≠c)->(∀ x ∈ t,x≠c)->sp c (m6 c P++t)=P++[t]
 | [],t,_,h=>A5y h
 | p::P,t,h1,h=>by
   have e:m6 c (p::P)++t=p++c::(m6 c P++t):=by simp[m6]
   rw[e,ZD (h1 p (B5 ..)),JS (fun q b=>h1 q (C7 _ b)) h];rfl
def XQ{c:UInt8}:∀ {P:List B1} {t:B1},(m6 c P++t).count c=P.length->(∀ p ∈ P,∀ x ∈ p,x≠c)/\(∀ x ∈ t,x≠c)
 | P,t,h=>by
   have k:∀ (P:List B1),(m6 c P).count c=P.length+(P.map (List.count c)).sum:=by
    intro P;induction P with
    | nil=>rfl
    | cons p P b =>
      have e:m6 c (p::P)=p++(c::m6 c P):=by simp[m6]
      rw[e,List.count_append,List.count_cons_self,b,E6,C3,List.sum_cons];omega
   rw[List.count_append,k]at h;have d:(P.map (List.count c)).sum=0:=A2;have f:t.count c=0:=A2;refine⟨fun p hp x hx e=>?_,fun x hx e=>?_⟩
   .have:List.count c p<=(P.map (List.count c)).sum:=by
     have:∀ {l:List B1},p ∈ l->List.count c p<=(l.map (List.count c)).sum:=by
      intro l;induction l with
      | nil=>intro h;cases h
      | cons q l b =>
        intro h;rw[C3,List.sum_cons];rcases B4.1 h with rfl|h
        .omega
        .have:=b h;omega
     exact this hp
    have:0<List.count c p:=List.count_pos_iff.2 (e▸hx);omega
   .have:0<List.count c t:=List.count_pos_iff.2 (e▸hx);omega
def zA(s:B1)(c:UInt8):parts s c=sp c s:=by
 obtain⟨P,t,h1,e,h3⟩:=tS s c;have f:(m6 c P++t).count c=P.length:=by rw[<- h3];exact e.symm
 obtain⟨b,d⟩:=XQ f;rw[h1,h3,JS b d]
def ZC(s:B1)(c:UInt8):(sp c s).length=s.count c+1:=by
 rw[<- zA];obtain⟨P,t,h1,b,h3⟩:=tS s c;rw[h1,D4,b];rfl
def ZB{c:UInt8}{p:B1}(h:p ∈ sp c s):p.length<=s.length:=by
 rw[<- zA]at h;obtain⟨P,t,h1,d,h3⟩:=tS s c;rw[h1]at h;rw[h3,D4];have k:∀ {P:List B1},p ∈ P->p.length<=(m6 c P).length:=by
  intro P;induction P with
  | nil=>intro h;cases h
  | cons q P b =>
    intro h;have e:m6 c (q::P)=q++(c::m6 c P):=by simp[m6]
    rw[e,D4,E6];rcases B4.1 h with rfl|h
    .omega
    .have:=b h;omega
 rcases B7.1 h with h|h
 .have:=k h;omega
 .obtain rfl:=L4.1 h;omega
end
end Go.Proofs.YtbbicpheoakeeaaGreatDoor
