import Derived.Test.YtbbicpheoakeeaaGreatDoorX11
set_option linter.all false
set_option maxRecDepth 100000
set_option maxHeartbeats 4000000
namespace Go.Proofs.YtbbicpheoakeeaaGreatDoor
variable {j k:IntKind}{at_ i v y:Int}{p x:Xt}{l ws:List Int}{a' acc:Option (List Gt)}{a a8 et m p8 s sep u z:B2}{g:Gt}
section
open Go Go.Sx Go.Proofs.Tryz
def rD:Rw (Int×Int×Int×Int×Int×Int×Int×Int×B2):=rC (M1 .u8) (rC (M1 .u8) (rC (M1 .u8) (rC (M1 .u8) (rC (M1 .u8) (rC (M1 .u8) (rC (M1 .u8) (rC (M1 .u32) (r1 oK))))))))
abbrev Dt:=(Int×Int×Int×Int×Int×Int×Int×Int×B2)
def W8:List B2:=[[107,105,108,108],[122,111,111,109],[115,101,108,101,99,116,32,117,112],[120],[32,97,32,32,98,32],[45,114,32,120],[115,101,110,100,32,34,121,34],[119,105,110,100,111,119,32,51]]
def kIn(d:Dt):Xt:=(diK ((0:Int)%4),diC ((0:Int)%4) d.2.2.2.1 d.2.2.2.2.1 d.2.2.2.2.2.2.2.1,diM ((0:Int)%4) d.2.2.2.1 d.2.2.2.2.1 d.2.2.2.2.2.2.2.1,diW ((0:Int)%4) d.2.1,diB ((0:Int)%4) d.2.1 d.2.2.1 d.2.2.2.1 d.2.2.2.2.2.1 d.2.2.2.2.2.2.1,diR ((0:Int)%4) d.2.2.2.2.2.1,diL ((0:Int)%4) d.2.2.2.2.2.2.1,diT ((0:Int)%4) d.2.2.2.2.2.2.2.2)
def kCm(ws:List Int)(i:Int):B2:=if i<(ws.length:Int)then W8.getD (ws.getD i.toNat default%8).toNat []else[107,105,108,108]
def kRp(ws:List Int)(i:Int):Bool:=decide (i<(ws.length:Int)) && decide (ws.getD i.toNat default / 8%2=1)
def kG(ws:List Int)(i:Int)(d:Dt):Gt:=((kIn d).1,(kIn d).2.1,(kIn d).2.2.1,(kIn d).2.2.2.1,(kIn d).2.2.2.2.1,(kIn d).2.2.2.2.2.1,(kIn d).2.2.2.2.2.2.1,(kIn d).2.2.2.2.2.2.2,kCm ws i,kRp ws i)
def kdA(p:Xt)(ws:List Int)(i:Int)(d:Dt)(acc:Option (List Gt)):Option (List Gt):=if(el acc).any (gQ (kIn d))=false/\eqX (kIn d) p=false then M9 acc (some [kG ws i d])else acc
def kdL(p:Xt)(ws:List Int):List Dt->Int->Option (List Gt)->Option (List Gt)
 | [],_,acc=>acc
 | d::r,i,acc=>kdL p ws r (i+1) (kdA p ws i d acc)
def Dok(d:Dt):Prop:=(0<=d.1/\d.1<256)/\(0<=d.2.1/\d.2.1<256)/\(0<=d.2.2.1/\d.2.2.1<256)/\(0<=d.2.2.2.1/\d.2.2.2.1<256)/\(0<=d.2.2.2.2.1/\d.2.2.2.2.1<256)/\(0<=d.2.2.2.2.2.1/\d.2.2.2.2.2.1<256)/\(0<=d.2.2.2.2.2.2.1/\d.2.2.2.2.2.2.1<256)/\(0<=d.2.2.2.2.2.2.2.1/\d.2.2.2.2.2.2.2.1<4294967296)/\(d.2.2.2.2.2.2.2.2.length:Int)<=140737488351232
instance(d:Dt):Decidable (Dok d):=by unfold Dok;infer_instance
def TW(b:List B2)(h0:0<=i)(h1:i<b.length):evU .sel (.int j i::b.map U.str)=.str (b.getD i.toNat []):=by
 rw[A2C _ _ _ h0,B0,F9,B0];have:i.toNat<b.length:=A2;simp[this]
def A6v{d:Dt}(h1:(!(el acc).any (gQ (kIn d)))=true)(b:(!eqX (kIn d) p)=true):kdA p ws i d acc=M9 acc (some [kG ws i d]):=A9 ⟨A76 h1,A76 b⟩
def B0h{d:Dt}(h1:(!(el acc).any (gQ (kIn d)))=false):kdA p ws i d acc=acc:=A7 fun h=>by rw[A75 h1]at h;cases h.1
def B0g{d:Dt}(b:(!eqX (kIn d) p)=false):kdA p ws i d acc=acc:=A7 fun h=>by rw[A75 b]at h;cases h.2
def B3r{d:Dt}(h:i<(ws.length:Int)):kG ws i d=((kIn d).1,(kIn d).2.1,(kIn d).2.2.1,(kIn d).2.2.2.1,(kIn d).2.2.2.2.1,(kIn d).2.2.2.2.2.1,(kIn d).2.2.2.2.2.2.1,(kIn d).2.2.2.2.2.2.2,W8.getD (ws.getD i.toNat default%8).toNat [],decide (ws.getD i.toNat default / 8%2=1)):=by
 unfold kG kCm kRp;rw[A9 h,J9 h,gX]
def B3s{d:Dt}(h:¬i<(ws.length:Int)):kG ws i d=((kIn d).1,(kIn d).2.1,(kIn d).2.2.1,(kIn d).2.2.2.1,(kIn d).2.2.2.2.1,(kIn d).2.2.2.2.2.1,(kIn d).2.2.2.2.2.2.1,(kIn d).2.2.2.2.2.2.2,[107,105,108,108],false):=by
 unfold kG kCm kRp;rw[A7 h,E5 h,mY]
def A6w(p:Xt)(ws:List Int)(i:Int)(d:Dt)(acc:Option (List Gt)):(el (kdA p ws i d acc)).length<=(el acc).length+1:=by
 unfold kdA;split
 .rw[bB,B4];exact A6 _
 .exact X7 _
def B0d{l:List Dt}(h0:0<=i)(h1:i<(l.length:Int))(b:i<20):kdL p ws ((l.take 20).drop i.toNat) i acc=kdL p ws ((l.take 20).drop (i+1).toNat) (i+1) (kdA p ws i (l.getD i.toNat default) acc):=by
 rw[R6 (l.take 20) h0 (by rw[G6];omega),kdL,B0,E8 A2,B0]
def B0e{l:List Dt}(h:(l.length:Int)<=i∨20<=i):kdL p ws ((l.take 20).drop i.toNat) i acc=acc:=by
 rw[bC (l.take 20) (by rw[G6];omega)];rfl
noncomputable def B2T:P0:=⟨_,fun b=>(.cons (A7W b) (.cons (B06 b) .nil))⟩
def rY:List U->Option (Nat×List U)
 | [.int .i64 i,.int .u8 e0,.int .u8 e1,.int .u8 e2,.int .u8 e3,.int .u8 e4,.int .u8 e5,.int .u8 e6,.int .u32 ec,.str et,u_ks,u_ws,.int .i64 p1,.int .i64 p2,.int .i64 p3,.int .i64 p4,.int .i64 p5,.int .i64 p6,.int .i64 p7,.str p8,u_acc]=>(L8 rD u_ks).bind fun ks=>(L8 rB u_ws).bind fun ws=>(L8 rG u_acc).bind fun acc=>if 0<=i/\i<=20/\i<=((el ks).length:Int)/\((el acc).length:Int)<=i/\((el ks).length:Int)<=140737488351232/\((el ws).length:Int)<=140737488351232/\(∀ d ∈ el ks,Dok d)/\(∀ x ∈ el ws,0<=x/\x<256)then some (0,[.int .i64 p1,.int .i64 p2,.int .i64 p3,.int .i64 p4,.int .i64 p5,.int .i64 p6,.int .i64 p7,.str p8,D8 rG (kdL (p1,p2,p3,p4,p5,p6,p7,p8) (el ws) (((el ks).take 20).drop i.toNat) i acc)])else none
 | _=>none
def xI(i:Int)(w:Int)(r:Int)(B:Int)(D:Int)(E:Int)(C:Int)(t:Int)(A:Int)(et:B2)(ks:(Option (List (Int×Int×Int×Int×Int×Int×Int×Int×B2))))(ws:tF)(b:Int)(e:Int)(o:Int)(c:Int)(q:Int)(f:Int)(n:Int)(p8:B2)(acc:(Option (List (Int×Int×Int×Int×Int×Int×Int×B2×B2×Bool))))(h:0<=i/\i<=20/\i<=((el ks).length:Int)/\((el acc).length:Int)<=i/\((el ks).length:Int)<=140737488351232/\((el ws).length:Int)<=140737488351232/\(∀ d ∈ el ks,Dok d)/\(∀ x ∈ el ws,0<=x/\x<256)):rY [.int .i64 i,.int .u8 w,.int .u8 r,.int .u8 B,.int .u8 D,.int .u8 E,.int .u8 C,.int .u8 t,.int .u32 A,.str et,D8 rD ks,D8 rB ws,.int .i64 b,.int .i64 e,.int .i64 o,.int .i64 c,.int .i64 q,.int .i64 f,.int .i64 n,.str p8,D8 rG acc]=some (0,[.int .i64 b,.int .i64 e,.int .i64 o,.int .i64 c,.int .i64 q,.int .i64 f,.int .i64 n,.str p8,D8 rG (kdL (b,e,o,c,q,f,n,p8) (el ws) (((el ks).take 20).drop i.toNat) i acc)]):=by
 simp only[rY,G5,D9];exact A9 h
def GW{w r A C D B t h b e o c q f n:Int}{ks:Option (List Dt)}{ws:tF}(E:0<=i/\i<=20/\i<=((el ks).length:Int)/\((el acc).length:Int)<=i/\((el ks).length:Int)<=140737488351232/\((el ws).length:Int)<=140737488351232/\(∀ d ∈ el ks,Dok d)/\(∀ x ∈ el ws,0<=x/\x<256))(h1:i<((el ks).length:Int))(H:i<20)(F:a'=kdA (b,e,o,c,q,f,n,p8) (el ws) i ((el ks).getD i.toNat default) acc):rY [.int .i64 (i+1),.int .u8 w,.int .u8 r,.int .u8 A,.int .u8 C,.int .u8 D,.int .u8 B,.int .u8 t,.int .u32 h,.str et,D8 rD ks,D8 rB ws,.int .i64 b,.int .i64 e,.int .i64 o,.int .i64 c,.int .i64 q,.int .i64 f,.int .i64 n,.str p8,D8 rG a']=rY [.int .i64 i,.int .u8 w,.int .u8 r,.int .u8 A,.int .u8 C,.int .u8 D,.int .u8 B,.int .u8 t,.int .u32 h,.str et,D8 rD ks,D8 rB ws,.int .i64 b,.int .i64 e,.int .i64 o,.int .i64 c,.int .i64 q,.int .i64 f,.int .i64 n,.str p8,D8 rG acc]:=by
 have G:=A6w (b,e,o,c,q,f,n,p8) (el ws) i ((el ks).getD i.toNat default) acc;rw[<- F]at G;rw[xI (i+1) w r A C D B t h et ks ws b e o c q f n p8 a' ⟨A2,A2,A2,A2,E.2.2.2.2⟩,xI i w r A C D B t h et ks ws b e o c q f n p8 acc E,B0d E.1 h1 H,<- F]
def A6s:R7:=⟨[(1,.pointer (some ⟨17,0,none⟩)),(2,.pointer (some ⟨18,0,none⟩)),(3,.pointer (some ⟨19,0,none⟩)),(4,.pointer (some ⟨20,0,none⟩)),(5,h 0 3)],[(17,.cells 28 [h 1 4,h 2 4,h 3 4,h 4 4,h 5 4,h 6 4,h 7 4,h 8 6,h 9 9,dat 21 10 19,dat 22 11 11]),(18,.cells 35 [.int .i64 (0),.int .i64 (0),.int .i64 (0),.int .i64 (0),.int .i64 (0),.int .i64 (0),.int .i64 (0),.string ⟨⟨[]⟩⟩,.slice none 0 0]),(19,.cells 78 [.string ⟨⟨[107,105,108,108]⟩⟩,.string ⟨⟨[122,111,111,109]⟩⟩,.string ⟨⟨[115,101,108,101,99,116,32,117,112]⟩⟩,.string ⟨⟨[120]⟩⟩,.string ⟨⟨[32,97,32,32,98,32]⟩⟩,.string ⟨⟨[45,114,32,120]⟩⟩,.string ⟨⟨[115,101,110,100,32,34,121,34]⟩⟩,.string ⟨⟨[119,105,110,100,111,119,32,51]⟩⟩]),(20,.cells 35 [h 12 3,h 13 3,h 14 3,h 15 3,h 16 3,h 17 3,h 18 3,h 19 9,own 23 20 20]),(23,.sq 20 20 32 24),(21,.frz),(22,.frz),(24,.frz)],21,[⟨.exit 0,[(2,.pointer (some ⟨18,0,none⟩)),(4,.pointer (some ⟨20,0,none⟩))],[(18,.cells 35 [.int .i64 (0),.int .i64 (0),.int .i64 (0),.int .i64 (0),.int .i64 (0),.int .i64 (0),.int .i64 (0),.string ⟨⟨[]⟩⟩,.slice none 0 0]),(20,.cells 35 [h 0 3,h 1 3,h 2 3,h 3 3,h 4 3,h 5 3,h 6 3,h 7 9,own 25 8 20]),(25,.sq 8 20 32 26),(26,.frz)],9⟩]⟩
noncomputable def A1W:Code:=(f11.body).getD .skip
noncomputable def A6o:Code:=match G7 [true,true,true,true,false,true,false] A1W with|some (.loop x)=>x|_=>.skip
def A6r:f11.body=some A1W:=rfl
def A6q:G7 [true,true,true,true,false,true,false] A1W=some (.loop A6o):=C4
def FQ(a0:Nat)(b:Nat):Tr:=aA [h3 0,jI 1]<|.ret [jI (-1),h3 b,h 1 4,h 2 4,h 3 4,h 4 4,h 5 4,h 6 4,h 7 4,h 8 6,h 9 9,h 10 19,h 11 11,h3 12,h3 13,h3 14,h3 15,h3 16,h3 17,h3 18,h 19 9,h a0 20]
def GV(n:Nat):Tr:=FQ 20 n
def dV(a0:Nat)(b:Nat)(a2:Nat)(c:Tr):Tr:=.lt 8 (.inbs 1) [h3 b,h a0 11]<|.br a2 c .no
def A6p:Tr:=aD [h 10 19]<|Q8 0 21 22 (Y8 0 23 20 (.lt 8 (.inbs 9) [h3 0,h 10 19]<|.br 24 (.lt 4 (.get 9 0) [h 10 19,h3 0]<|.lt 4 (.get 9 1) [h 10 19,h3 0]<|.lt 4 (.get 9 2) [h 10 19,h3 0]<|.lt 4 (.get 9 3) [h 10 19,h3 0]<|.lt 4 (.get 9 4) [h 10 19,h3 0]<|.lt 4 (.get 9 5) [h 10 19,h3 0]<|.lt 4 (.get 9 6) [h 10 19,h3 0]<|.lt 6 (.get 9 7) [h 10 19,h3 0]<|.lt 9 (.get 9 8) [h 10 19,h3 0]<|.fn AQ [.int .u8 (0),h 26 4,h 27 4,h 28 4,h 29 4,h 30 4,h 31 4,h 32 6,h 33 9] 8<|aD [h 11 11]<|Q8 0 42 43 (dV 11 0 44 (.lt 4 (.get 1 0) [h 11 11,h3 0]<|.lt 4 (.bin .rem) [h 45 4,.int .u8 (8)]<|aI [h 46 4,jI 8]<|.br 47 (.lt 9 (.sel) [h 46 4,.string ⟨⟨[107,105,108,108]⟩⟩,.string ⟨⟨[122,111,111,109]⟩⟩,.string ⟨⟨[115,101,108,101,99,116,32,117,112]⟩⟩,.string ⟨⟨[120]⟩⟩,.string ⟨⟨[32,97,32,32,98,32]⟩⟩,.string ⟨⟨[45,114,32,120]⟩⟩,.string ⟨⟨[115,101,110,100,32,34,121,34]⟩⟩,.string ⟨⟨[119,105,110,100,111,119,32,51]⟩⟩]<|dV 11 0 49 (.lt 4 (.get 1 0) [h 11 11,h3 0]<|.lt 4 (.bin .quo) [h 50 4,.int .u8 (8)]<|.lt 4 (.bin .rem) [h 51 4,.int .u8 (2)]<|aE [h 52 4,.int .u8 (1)]<|.fn AF [h3 12,h3 13,h3 14,h3 15,h3 16,h3 17,h3 18,h 19 9,h 20 20,h3 34,h3 35,h3 36,h3 37,h3 38,h3 39,h3 40,h 41 9] 11<|M5 64 65 (FS 12 34 66 (.dt 20 (.snoc 10) [h 20 20,h3 34,h3 35,h3 36,h3 37,h3 38,h3 39,h3 40,h 41 9,h 48 9,h 53 8]<|FQ 68 69) (GV 68)) (GV 66))) (.no))) (.fn AF [h3 12,h3 13,h3 14,h3 15,h3 16,h3 17,h3 18,h 19 9,h 20 20,h3 34,h3 35,h3 36,h3 37,h3 38,h3 39,h3 40,h 41 9] 11<|M5 54 55 (FS 12 34 56 (.dt 20 (.snoc 10) [h 20 20,h3 34,h3 35,h3 36,h3 37,h3 38,h3 39,h3 40,h 41 9,.string ⟨⟨[107,105,108,108]⟩⟩,.bool false]<|FQ 58 59) (GV 58)) (GV 56))) (.no)) (.ret [jI 0,h3 12,h3 13,h3 14,h3 15,h3 16,h3 17,h3 18,h 19 9,h 20 20])) (.ret [jI 0,h3 12,h3 13,h3 14,h3 15,h3 16,h3 17,h3 18,h 19 9,h 20 20])
def A1V:List U->Nat
 | [.int .i64 i,.int .u8 e0,.int .u8 e1,.int .u8 e2,.int .u8 e3,.int .u8 e4,.int .u8 e5,.int .u8 e6,.int .u32 ec,.str et,u_ks,u_ws,.int .i64 p1,.int .i64 p2,.int .i64 p3,.int .i64 p4,.int .i64 p5,.int .i64 p6,.int .i64 p7,.str p8,u_acc]=>(match L8 rD u_ks with|some ks=>(match L8 rB u_ws with|some ws=>(match L8 rG u_acc with|some acc=>(20-i).toNat|none=>0)|none=>0)|none=>0)
 | _=>0
def A1U(i:Int)(o:Int)(d:Int)(w:Int)(A:Int)(B:Int)(h:Int)(f:Int)(t:Int)(et:B2)(ks:(Option (List (Int×Int×Int×Int×Int×Int×Int×Int×B2))))(ws:tF)(b:Int)(e:Int)(r:Int)(c:Int)(C:Int)(n:Int)(q:Int)(p8:B2)(acc:(Option (List (Int×Int×Int×Int×Int×Int×Int×B2×B2×Bool)))):A1V [.int .i64 i,.int .u8 o,.int .u8 d,.int .u8 w,.int .u8 A,.int .u8 B,.int .u8 h,.int .u8 f,.int .u32 t,.str et,D8 rD ks,D8 rB ws,.int .i64 b,.int .i64 e,.int .i64 r,.int .i64 c,.int .i64 C,.int .i64 n,.int .i64 q,.str p8,D8 rG acc]=(20-i).toNat:=by
 simp only[A1V,G5]
def B0c{G}(B:K3 G):∀ (E:Nat->U) (base:Nat),@Q5 ⟨E,G⟩ prog base gl f11.ntmps A6o (N0 prog gl n0 27 A6s rY):=by
 refine S3 (dep:=60) (f:=11) (n0:=n0) (nB:=27) (H0:=H0) A1V A6p (cxg (B2T.2 B) .nil) B func11 A6r A6q C4 C4 C4 ?_;intro us d outs c;have D:=c;unfold rY at c;split at c
 .skip;rename_i i P K W V Y X N T et H F I L R J Z O S p8 C;have A:=B3.1 c;clear c;obtain⟨ks,n,c⟩:=A;replace n:=I2 n;subst n;have w:=B3.1 c;clear c;obtain⟨ws,o,c⟩:=w;replace o:=I2 o;subst o;have t:=B3.1 c;clear c;obtain⟨acc,b,c⟩:=t;replace b:=I2 b;subst b;split at c
  .rename_i q;clear c D;have M:i<((el ks).length:Int)->Dok ((el ks).getD i.toNat default):=fun h=>q.2.2.2.2.2.2.1 _ (aZ q.1 A2)
   have Q:i<((el ws).length:Int)->0<=(el ws).getD i.toNat default/\(el ws).getD i.toNat default<256:=fun h=>q.2.2.2.2.2.2.2 _ (aZ q.1 A2)
   refine⟨rfl,?_⟩;unfold A6p;refine s0L ?_;show Tr.sav _ _ (.cons 20 _ (.cons 19 _ (.cons 18 _ (.cons 17 _ (.cons 16 _ (.cons 15 _ (.cons 14 _ (.cons 13 _ (.cons 12 _ (.cons 11 _ (.cons 10 _ (.cons 9 _ (.cons 8 _ (.cons 7 _ (.cons 6 _ (.cons 5 _ (.cons 4 _ (.cons 3 _ (.cons 2 _ (.cons 1 _ (.cons 0 _ (.nil))))))))))))))))))))));refine Wk.s ?_;repeat (first|refine w4 (fun g=>?_) fun g=>?_|refine w4B (fun g=>?_) fun g=>?_|refine bW ?_|refine W5 ?_|refine Z6 ?_|refine lD ?_|(refine w7 [.int .i64 _,.int .i64 _,.int .u8 _,.int .u8 _,.int .u8 _,.int .u8 _,.int .u8 _,.int .u8 _,.int .u8 _,.int .u32 _,.str _,D8 rD _,D8 rB _,.int .i64 _,.int .i64 _,.int .i64 _,.int .i64 _,.int .i64 _,.int .i64 _,.int .i64 _,.str _,D8 rG _] ?_;rotate_left)|refine A3U ?_|refine w1 (.bin .rem) (e:=AK _ _ _ A2) (k':=?_)|(refine w8 ?_;first|omega|(have z:=Q ‹_›;omega))|refine aB ?_|refine aF ?_|refine eN ?_|refine w1 (.get 1 0) (u:=.int .u8 _) (e:=C9 rfl A2 A2 rfl) (k':=?_)|refine A7_ ?_|refine w1 (.bin .quo) (e:=HO _ _ _ A2) (k':=?_)|(refine w3 AF (e:=A4V _ _ _ _ _ _ _ _ _ _ _ _ _ _ _ _ _ A2) (k':=?_);show Wk _ _ (.cons _ _ (.cons _ _ (.cons _ _ (.cons _ _ (.cons _ _ (.cons _ _ (.cons _ _ (.cons _ _ (.cons _ _ (.cons _ _ (.cons _ _ _))))))))))))|refine w1 (.eqs) (e:=rfl) (k':=?_)|refine w2 (.snoc 10) (r:=rG) (e:=sT (a:=(_,_,_,_,_,_,_,_,_,_)) rfl rfl F3 A2) (k':=?_)|(refine w7 [.int .i64 _,.int .i64 _,.int .i64 _,.int .i64 _,.int .i64 _,.int .i64 _,.int .i64 _,.int .i64 _,.str _,D8 rG _] ?_;rotate_left)|refine w1 (.get 9 0) (u:=.int .u8 _) (e:=C9 rfl A2 A2 rfl) (k':=?_)|refine w1 (.get 9 1) (u:=.int .u8 _) (e:=C9 rfl A2 A2 rfl) (k':=?_)|refine w1 (.get 9 2) (u:=.int .u8 _) (e:=C9 rfl A2 A2 rfl) (k':=?_)|refine w1 (.get 9 3) (u:=.int .u8 _) (e:=C9 rfl A2 A2 rfl) (k':=?_)|refine w1 (.get 9 4) (u:=.int .u8 _) (e:=C9 rfl A2 A2 rfl) (k':=?_)|refine w1 (.get 9 5) (u:=.int .u8 _) (e:=C9 rfl A2 A2 rfl) (k':=?_)|refine w1 (.get 9 6) (u:=.int .u8 _) (e:=C9 rfl A2 A2 rfl) (k':=?_)|refine w1 (.get 9 7) (u:=.int .u32 _) (e:=C9 rfl A2 A2 rfl) (k':=?_)|refine w1 (.get 9 8) (u:=.str _) (e:=C9 rfl A2 A2 rfl) (k':=?_)|(refine w3 AQ (e:=UH _ _ _ _ _ _ _ _ _ (by have z:=M ‹_›;unfold Dok at z;omega)) (k':=?_);show Wk _ _ (.cons _ _ (.cons _ _ (.cons _ _ (.cons _ _ (.cons _ _ (.cons _ _ (.cons _ _ (.cons _ _ _)))))))))|refine A9k ?_|refine w1 (.sel) (e:=TW W8 A2 (by show _<((8:Nat):Int);omega)) (k':=?_)|refine fO ?_)
   all_goals first
    | refine N3 ?_ ?_
      .first
       | exact GW q ‹_› ‹_› ((A6v ‹_› ‹_›).trans (by rw[B3r ‹_›];rfl)).symm
       | exact GW q ‹_› ‹_› ((A6v ‹_› ‹_›).trans (by rw[B3s ‹_›];rfl)).symm
       | exact GW q ‹_› ‹_› (B0h ‹_›).symm
       | exact GW q ‹_› ‹_› (B0g ‹_›).symm
      .rw[A1U,A1U];omega
    | refine I3 (d:=0) ?_
      rw[xI i P K W V Y X N T et ks ws I L R J Z O S p8 acc q,B0e A2]
  .cases c
 .cases c
noncomputable def B2w:List LpE:=(11,([true,true,true,true,false,true,false],N0 prog gl n0 27 A6s rY))::[]
def A3I{G}(b:K3 G):W9 prog G gl B2w:=.cons func11 A6r A6q (B0c b) .nil
noncomputable def B2S:P0:=⟨_,fun b=>(.cons (A7W b) .nil)⟩
def DY:List U->Option (Nat×List U)
 | [.int .u8 e0,.int .u8 e1,.int .u8 e2,.int .u8 e3,.int .u8 e4,.int .u8 e5,.int .u8 e6,.int .u32 ec,.str et,u_ks,u_ws]=>(L8 rD u_ks).bind fun ks=>(L8 rB u_ws).bind fun ws=>if((el ks).length:Int)<=140737488351232/\((el ws).length:Int)<=140737488351232/\(∀ d ∈ el ks,Dok d)/\(∀ x ∈ el ws,0<=x/\x<256)/\Dok (e0,e1,e2,e3,e4,e5,e6,ec,et)then some (0,[.int .i64 ((kIn (e0,e1,e2,e3,e4,e5,e6,ec,et)).1),.int .i64 ((kIn (e0,e1,e2,e3,e4,e5,e6,ec,et)).2.1),.int .i64 ((kIn (e0,e1,e2,e3,e4,e5,e6,ec,et)).2.2.1),.int .i64 ((kIn (e0,e1,e2,e3,e4,e5,e6,ec,et)).2.2.2.1),.int .i64 ((kIn (e0,e1,e2,e3,e4,e5,e6,ec,et)).2.2.2.2.1),.int .i64 ((kIn (e0,e1,e2,e3,e4,e5,e6,ec,et)).2.2.2.2.2.1),.int .i64 ((kIn (e0,e1,e2,e3,e4,e5,e6,ec,et)).2.2.2.2.2.2.1),.str ((kIn (e0,e1,e2,e3,e4,e5,e6,ec,et)).2.2.2.2.2.2.2),D8 rG (kdL (kIn (e0,e1,e2,e3,e4,e5,e6,ec,et)) (el ws) ((el ks).take 20) 0 none)])else none
 | _=>none
def A4J(r:Int)(e:Int)(c:Int)(o:Int)(q:Int)(n:Int)(b:Int)(f:Int)(et:B2)(ks:(Option (List (Int×Int×Int×Int×Int×Int×Int×Int×B2))))(ws:tF)(t:((el ks).length:Int)<=140737488351232/\((el ws).length:Int)<=140737488351232/\(∀ d ∈ el ks,Dok d)/\(∀ x ∈ el ws,0<=x/\x<256)/\Dok (r,e,c,o,q,n,b,f,et)):DY [.int .u8 r,.int .u8 e,.int .u8 c,.int .u8 o,.int .u8 q,.int .u8 n,.int .u8 b,.int .u32 f,.str et,D8 rD ks,D8 rB ws]=some (0,[.int .i64 ((kIn (r,e,c,o,q,n,b,f,et)).1),.int .i64 ((kIn (r,e,c,o,q,n,b,f,et)).2.1),.int .i64 ((kIn (r,e,c,o,q,n,b,f,et)).2.2.1),.int .i64 ((kIn (r,e,c,o,q,n,b,f,et)).2.2.2.1),.int .i64 ((kIn (r,e,c,o,q,n,b,f,et)).2.2.2.2.1),.int .i64 ((kIn (r,e,c,o,q,n,b,f,et)).2.2.2.2.2.1),.int .i64 ((kIn (r,e,c,o,q,n,b,f,et)).2.2.2.2.2.2.1),.str ((kIn (r,e,c,o,q,n,b,f,et)).2.2.2.2.2.2.2),D8 rG (kdL (kIn (r,e,c,o,q,n,b,f,et)) (el ws) ((el ks).take 20) 0 none)]):=by
 simp only[DY,G5,D9];exact A9 t
def A6n:Tr:=.fn AQ [.int .u8 (0),h 1 4,h 2 4,h 3 4,h 4 4,h 5 4,h 6 4,h 7 6,h 8 9] 8<|.dt 20 (.nilw 10) []<|.fn rY [jI 0,.int .u8 (0),h 1 4,h 2 4,h 3 4,h 4 4,h 5 4,h 6 4,h 7 6,h 8 9,h 9 19,h 10 11,h3 11,h3 12,h3 13,h3 14,h3 15,h3 16,h3 17,h 18 9,h 19 20] 9<|.ret [h3 20,h3 21,h3 22,h3 23,h3 24,h3 25,h3 26,h 27 9,h 28 20]
def B0b{G}(n:K3 G):L2 prog G 11 [.a [4,4,4,4,4,4,4,6,9,19,11]] DY [.a [3,3,3,3,3,3,3,9,20]]:=by
 refine F2 (d:=60) A6n (cxg (B2S.2 n) (A3I n)) n ⟨f11,_,func11,rfl⟩ C4 C4 ?_;intro us outs f;unfold DY at f;split at f
 .skip;rename_i C A F E I H B D et h w;have q:=B3.1 f;clear f;obtain⟨ks,b,f⟩:=q;replace b:=I2 b;subst b;have o:=B3.1 f;clear f;obtain⟨ws,c,f⟩:=o;replace c:=I2 c;subst c;split at f
  .rename_i t;cases f;unfold A6n;refine w0 (.cons 10 _ (.cons 9 _ (.cons 8 _ (.cons 7 _ (.cons 6 _ (.cons 5 _ (.cons 4 _ (.cons 3 _ (.cons 2 _ (.cons 1 _ (.cons 0 _ (.nil)))))))))))) ?_;repeat (first|(refine w3 AQ (e:=UH _ _ _ _ _ _ _ _ _ (by have z:=t.2.2.2.2;simp only[Dok]at z;omega)) (k':=?_);show Wk _ _ (.cons _ _ (.cons _ _ (.cons _ _ (.cons _ _ (.cons _ _ (.cons _ _ (.cons _ _ (.cons _ _ _)))))))))|refine w2 (.nilw 10) (r:=rG) (e:=mJ rfl) (k':=?_)|(refine w3 rY (e:=xI _ _ _ _ _ _ _ _ _ _ _ _ _ _ _ _ _ _ _ _ _ ⟨F3,F3,A2,F3,t.1,t.2.1,t.2.2.1,t.2.2.2.1⟩) (k':=?_);show Wk _ _ (.cons _ _ (.cons _ _ (.cons _ _ (.cons _ _ (.cons _ _ (.cons _ _ (.cons _ _ (.cons _ _ (.cons _ _ _))))))))))|(refine w7 [.int .i64 _,.int .i64 _,.int .i64 _,.int .i64 _,.int .i64 _,.int .i64 _,.int .i64 _,.str _,D8 rG _] ?_;rotate_left))
   all_goals
    first|rfl
  .cases f
 .cases f
def shG(g:Gt):Gt:=(g.1,g.2.1,g.2.2.1,g.2.2.2.1,g.2.2.2.2.1,g.2.2.2.2.2.1,g.2.2.2.2.2.2.1,(g.2.2.2.2.2.2.2.1.drop (0:Int).toNat).take ((min (g.2.2.2.2.2.2.2.1.length:Int) 20).toNat-(0:Int).toNat),(g.2.2.2.2.2.2.2.2.1.drop (0:Int).toNat).take ((min (g.2.2.2.2.2.2.2.2.1.length:Int) 110).toNat-(0:Int).toNat),g.2.2.2.2.2.2.2.2.2)
def shL(l:List Gt):Option (List Gt):=M9 none (some ((l.take 70).map shG))
def shT(t:B2):B2:=(t.drop (0:Int).toNat).take ((min (t.length:Int) 20).toNat-(0:Int).toNat)
def A8I{l:List Gt}(h0:0<=i)(h1:i<(l.length:Int))(b:i<70):M9 acc (some (((l.take 70).drop i.toNat).map shG))=M9 (M9 acc (some [shG (l.getD i.toNat default)])) (some (((l.take 70).drop (i+1).toNat).map shG)):=by
 rw[R6 (l.take 70) h0 (by rw[G6];omega),oE,B0,E8 A2,B0];rfl
def A8J{l:List Gt}(h:(l.length:Int)<=i∨70<=i):M9 acc (some (((l.take 70).drop i.toNat).map shG))=acc:=by
 rw[bC (l.take 70) (by rw[G6];omega)];exact AW acc
noncomputable def B11:P0:=⟨_,fun b=>.nil⟩
def yI:List U->Option (Nat×List U)
 | [u_acc,.int .i64 i,.int .i64 p1,.int .i64 p2,.int .i64 p3,.int .i64 p4,.int .i64 p5,.int .i64 p6,.int .i64 p7,.str p8,u_l]=>(L8 rG u_acc).bind fun acc=>(L8 rG u_l).bind fun l=>if 0<=i/\i<=70/\i<=((el l).length:Int)/\((el acc).length:Int)<=i/\((el l).length:Int)<=140737488351232/\(∀ g ∈ el l,gOk g)then some (0,[D8 rG (M9 acc (some ((((el l).take 70).drop i.toNat).map shG))),.int .i64 p1,.int .i64 p2,.int .i64 p3,.int .i64 p4,.int .i64 p5,.int .i64 p6,.int .i64 p7,.str p8,D8 rG l])else none
 | _=>none
def xB(acc:(Option (List (Int×Int×Int×Int×Int×Int×Int×B2×B2×Bool))))(i:Int)(d:Int)(o:Int)(n:Int)(e:Int)(b:Int)(f:Int)(c:Int)(p8:B2)(l:(Option (List (Int×Int×Int×Int×Int×Int×Int×B2×B2×Bool))))(q:0<=i/\i<=70/\i<=((el l).length:Int)/\((el acc).length:Int)<=i/\((el l).length:Int)<=140737488351232/\(∀ g ∈ el l,gOk g)):yI [D8 rG acc,.int .i64 i,.int .i64 d,.int .i64 o,.int .i64 n,.int .i64 e,.int .i64 b,.int .i64 f,.int .i64 c,.str p8,D8 rG l]=some (0,[D8 rG (M9 acc (some ((((el l).take 70).drop i.toNat).map shG))),.int .i64 d,.int .i64 o,.int .i64 n,.int .i64 e,.int .i64 b,.int .i64 f,.int .i64 c,.str p8,D8 rG l]):=by
 simp only[yI,G5,D9];exact A9 q
def A5a:R7:=⟨[(1,.pointer (some ⟨17,0,none⟩)),(2,.pointer (some ⟨18,0,none⟩)),(3,own 19 0 20),(4,h 1 3)],[(17,.cells 35 [h 2 3,h 3 3,h 4 3,h 5 3,h 6 3,h 7 3,h 8 3,h 9 9,dat 21 10 20]),(18,.cells 35 [.int .i64 (0),.int .i64 (0),.int .i64 (0),.int .i64 (0),.int .i64 (0),.int .i64 (0),.int .i64 (0),.string ⟨⟨[]⟩⟩,.slice none 0 0]),(19,.sq 0 20 32 20),(20,.frz),(21,.frz)],11,[⟨.exit 0,[(1,.pointer (some ⟨17,0,none⟩)),(2,.pointer (some ⟨18,0,none⟩)),(3,own 22 0 20)],[(17,.cells 35 [h 1 3,h 2 3,h 3 3,h 4 3,h 5 3,h 6 3,h 7 3,h 8 9,dat 24 9 20]),(18,.cells 35 [.int .i64 (0),.int .i64 (0),.int .i64 (0),.int .i64 (0),.int .i64 (0),.int .i64 (0),.int .i64 (0),.string ⟨⟨[]⟩⟩,.slice none 0 0]),(22,.sq 0 20 32 23),(23,.frz),(24,.frz)],10⟩]⟩
noncomputable def YM:Code:=(f35.body).getD .skip
noncomputable def A5W:Code:=match G7 [true,true,false,true,false] YM with|some (.loop x)=>x|_=>.skip
def A5Z:f35.body=some YM:=rfl
def A5Y:G7 [true,true,false,true,false] YM=some (.loop A5W):=C4
def A5X:Tr:=aD [h 10 20]<|Q8 1 11 12 (Y8 1 13 70 (Z1 10 1 14 (.lt 3 (.get 10 0) [h 10 20,h3 1]<|.lt 3 (.get 10 1) [h 10 20,h3 1]<|.lt 3 (.get 10 2) [h 10 20,h3 1]<|.lt 3 (.get 10 3) [h 10 20,h3 1]<|.lt 3 (.get 10 4) [h 10 20,h3 1]<|.lt 3 (.get 10 5) [h 10 20,h3 1]<|.lt 3 (.get 10 6) [h 10 20,h3 1]<|.lt 9 (.get 10 7) [h 10 20,h3 1]<|.lt 9 (.get 10 8) [h 10 20,h3 1]<|.lt 8 (.get 10 9) [h 10 20,h3 1]<|aD [h 23 9]<|.lt 3 (.min) [h3 25,jI 110]<|.lt 9 (.sub) [h 23 9,jI 0,h3 26]<|aD [h 22 9]<|.lt 3 (.min) [h3 28,jI 20]<|.lt 9 (.sub) [h 22 9,jI 0,h3 29]<|.dt 20 (.snoc 10) [h 0 20,h3 15,h3 16,h3 17,h3 18,h3 19,h3 20,h3 21,h 30 9,h 27 9,h 24 8]<|aA [h3 1,jI 1]<|.ret [jI (-1),h 31 20,h3 32,h3 2,h3 3,h3 4,h3 5,h3 6,h3 7,h3 8,h 9 9,h 10 20])) (.ret [jI 0,h 0 20,h3 2,h3 3,h3 4,h3 5,h3 6,h3 7,h3 8,h 9 9,h 10 20])) (.ret [jI 0,h 0 20,h3 2,h3 3,h3 4,h3 5,h3 6,h3 7,h3 8,h 9 9,h 10 20])
def YL:List U->Nat
 | [u_acc,.int .i64 i,.int .i64 p1,.int .i64 p2,.int .i64 p3,.int .i64 p4,.int .i64 p5,.int .i64 p6,.int .i64 p7,.str p8,u_l]=>(match L8 rG u_acc with|some acc=>(match L8 rG u_l with|some l=>(70-i).toNat|none=>0)|none=>0)
 | _=>0
def YK(acc:(Option (List (Int×Int×Int×Int×Int×Int×Int×B2×B2×Bool))))(i:Int)(d:Int)(o:Int)(n:Int)(e:Int)(b:Int)(f:Int)(c:Int)(p8:B2)(l:(Option (List (Int×Int×Int×Int×Int×Int×Int×B2×B2×Bool)))):YL [D8 rG acc,.int .i64 i,.int .i64 d,.int .i64 o,.int .i64 n,.int .i64 e,.int .i64 b,.int .i64 f,.int .i64 c,.str p8,D8 rG l]=(70-i).toNat:=by
 simp only[YL,G5]
def A9q{G}(t:K3 G):∀ (E:Nat->U) (base:Nat),@Q5 ⟨E,G⟩ prog base gl f35.ntmps A5W (N0 prog gl n0 25 A5a yI):=by
 refine S3 (dep:=60) (f:=35) (n0:=n0) (nB:=25) (H0:=H0) YL A5X (cxg (B11.2 t) .nil) t func35 A5Z A5Y C4 C4 C4 ?_;intro us d outs c;have K:=c;unfold yI at c;split at c
 .skip;rename_i A i B D I C J F H p8 M;have o:=B3.1 c;clear c;obtain⟨acc,b,c⟩:=o;replace b:=I2 b;subst b;have w:=B3.1 c;clear c;obtain⟨l,n,c⟩:=w;replace n:=I2 n;subst n;split at c
  .rename_i q;clear c K;have L:i<((el l).length:Int)->gOk ((el l).getD i.toNat default):=fun h=>q.2.2.2.2.2 _ (aZ q.1 A2)
   refine⟨rfl,?_⟩;unfold A5X;refine w0 (.cons 10 _ (.cons 9 _ (.cons 8 _ (.cons 7 _ (.cons 6 _ (.cons 5 _ (.cons 4 _ (.cons 3 _ (.cons 2 _ (.cons 1 _ (.cons 0 _ (.nil)))))))))))) ?_;repeat (first|refine w4 (fun g=>?_) fun g=>?_|refine aB ?_|refine gS ?_|refine A8A ?_|refine A9i ?_|refine bW ?_|refine W5 ?_|(refine w7 [.int .i64 _,D8 rG _,.int .i64 _,.int .i64 _,.int .i64 _,.int .i64 _,.int .i64 _,.int .i64 _,.int .i64 _,.str _,D8 rG _] ?_;rotate_left)|refine eN ?_|refine aF ?_|refine w1 (.get 10 0) (u:=.int .i64 _) (e:=C9 rfl A2 A2 rfl) (k':=?_)|refine w1 (.get 10 1) (u:=.int .i64 _) (e:=C9 rfl A2 A2 rfl) (k':=?_)|refine w1 (.get 10 2) (u:=.int .i64 _) (e:=C9 rfl A2 A2 rfl) (k':=?_)|refine w1 (.get 10 3) (u:=.int .i64 _) (e:=C9 rfl A2 A2 rfl) (k':=?_)|refine w1 (.get 10 4) (u:=.int .i64 _) (e:=C9 rfl A2 A2 rfl) (k':=?_)|refine w1 (.get 10 5) (u:=.int .i64 _) (e:=C9 rfl A2 A2 rfl) (k':=?_)|refine w1 (.get 10 6) (u:=.int .i64 _) (e:=C9 rfl A2 A2 rfl) (k':=?_)|refine w1 (.get 10 7) (u:=.str _) (e:=C9 rfl A2 A2 rfl) (k':=?_)|refine w1 (.get 10 8) (u:=.str _) (e:=C9 rfl A2 A2 rfl) (k':=?_)|refine w1 (.get 10 9) (u:=.bool _) (e:=C9 rfl A2 A2 rfl) (k':=?_)|refine w2 (.snoc 10) (r:=rG) (e:=sT (a:=shG ((el l).getD i.toNat default)) rfl rfl F3 A2) (k':=?_)|(refine w7 [.int .i64 _,D8 rG _,.int .i64 _,.int .i64 _,.int .i64 _,.int .i64 _,.int .i64 _,.int .i64 _,.int .i64 _,.int .i64 _,.str _,D8 rG _] ?_;rotate_left)|(refine w8 ?_;first|omega|(have z:=L ‹_›;unfold gOk at z;omega)))
   all_goals first
    | refine N3 ?_ ?_
      .rw[xB acc i B D I C J F H p8 l q,A8I q.1 ‹_› ‹_›];exact xB _ (i+1) B D I C J F H p8 l ⟨A2,A2,A2,by rw[K6,B4,Z0];omega,q.2.2.2.2⟩
      .rw[YK,YK];omega
    | refine I3 (d:=0) ?_
      rw[xB acc i B D I C J F H p8 l q,A8J A2]
  .cases c
 .cases c
noncomputable def B2q:List LpE:=(35,([true,true,false,true,false],N0 prog gl n0 25 A5a yI))::[]
def A2_{G}(b:K3 G):W9 prog G gl B2q:=.cons func35 A5Z A5Y (A9q b) .nil
noncomputable def B10:P0:=⟨_,fun b=>.nil⟩
def qP:List U->Option (Nat×List U)
 | [.int .i64 p1,.int .i64 p2,.int .i64 p3,.int .i64 p4,.int .i64 p5,.int .i64 p6,.int .i64 p7,.str p8,u_l]=>(L8 rG u_l).bind fun l=>if(p8.length:Int)<=140737488351232/\((el l).length:Int)<=140737488351232/\(∀ g ∈ el l,gOk g)then some (0,[.int .i64 (p1),.int .i64 (p2),.int .i64 (p3),.int .i64 (p4),.int .i64 (p5),.int .i64 (p6),.int .i64 (p7),.str (shT p8),D8 rG (shL (el l))])else none
 | _=>none
def RF(d:Int)(o:Int)(n:Int)(e:Int)(b:Int)(f:Int)(c:Int)(p8:B2)(l:(Option (List (Int×Int×Int×Int×Int×Int×Int×B2×B2×Bool))))(q:(p8.length:Int)<=140737488351232/\((el l).length:Int)<=140737488351232/\(∀ g ∈ el l,gOk g)):qP [.int .i64 d,.int .i64 o,.int .i64 n,.int .i64 e,.int .i64 b,.int .i64 f,.int .i64 c,.str p8,D8 rG l]=some (0,[.int .i64 (d),.int .i64 (o),.int .i64 (n),.int .i64 (e),.int .i64 (b),.int .i64 (f),.int .i64 (c),.str (shT p8),D8 rG (shL (el l))]):=by
 simp only[qP,G5,D9];exact A9 q
def A5U:Tr:=.dt 20 (.nilw 10) []<|.fn yI [h 9 20,jI 0,h3 0,h3 1,h3 2,h3 3,h3 4,h3 5,h3 6,h 7 9,h 8 20] 10<|aD [h 18 9]<|.lt 3 (.min) [h3 20,jI 20]<|.lt 9 (.sub) [h 18 9,jI 0,h3 21]<|.ret [h3 11,h3 12,h3 13,h3 14,h3 15,h3 16,h3 17,h 22 9,h 10 20]
def A5V{G}(f:K3 G):L2 prog G 35 [.a [3,3,3,3,3,3,3,9,20]] qP [.a [3,3,3,3,3,3,3,9,20]]:=by
 refine F2 (d:=60) A5U (cxg (B10.2 f) (A2_ f)) f ⟨f35,_,func35,rfl⟩ C4 C4 ?_;intro us outs c;unfold qP at c;split at c
 .skip;rename_i h D C A t B w p8 q;have n:=B3.1 c;clear c;obtain⟨l,b,c⟩:=n;replace b:=I2 b;subst b;split at c
  .rename_i o;cases c;unfold A5U;refine w0 (.cons 8 _ (.cons 7 _ (.cons 6 _ (.cons 5 _ (.cons 4 _ (.cons 3 _ (.cons 2 _ (.cons 1 _ (.cons 0 _ (.nil)))))))))) ?_;repeat (first|refine w2 (.nilw 10) (r:=rG) (e:=mJ rfl) (k':=?_)|(refine w3 yI (e:=xB _ _ _ _ _ _ _ _ _ _ _ ⟨F3,F3,A2,F3,o.2.1,o.2.2⟩) (k':=?_);show Wk _ _ (.cons _ _ (.cons _ _ (.cons _ _ (.cons _ _ (.cons _ _ (.cons _ _ (.cons _ _ (.cons _ _ (.cons _ _ (.cons _ _ _)))))))))))|refine gS ?_|refine A8A ?_|refine w1 (.sub) (e:=eA _ _ _ _ _ A2 A2 A2) (k':=?_)|(refine w7 [.int .i64 _,.int .i64 _,.int .i64 _,.int .i64 _,.int .i64 _,.int .i64 _,.int .i64 _,.str _,D8 rG _] ?_;rotate_left))
   all_goals
    first|rfl
  .cases c
 .cases c
def bnL(l:Option (List Gt))(g:Gt)(at_:Int):Option (List Gt):=if 0<((el (M9 (some []) l)).length:Int)then JS (M9 (some []) l) (at_%((el (M9 (some []) l)).length:Int)).toNat g else M9 (some []) l
def A2O(l:Option (List Gt)):el (M9 (some []) l)=el l:=by rw[bB];rfl
def B4I{l:Option (List Gt)}(h:¬0<((el (M9 (some []) l)).length:Int)):bnL l g at_=M9 (some []) l:=A7 h
def B1e{l:Option (List Gt)}(h:0<((el (M9 (some []) l)).length:Int)):bnL l g at_=JS (M9 (some []) l) (at_%((el (M9 (some []) l)).length:Int)).toNat g:=A9 h
def A7r{l:Option (List Gt)}(h:∀ x ∈ el l,gOk x)(c:gOk g)(b:((el l).length:Int)<=140737488351232):((el (bnL l g at_)).length:Int)<=140737488351232/\∀ x ∈ el (bnL l g at_),gOk x:=by
 unfold bnL;split
 .rw[xO,A2O];refine⟨by rw[Q0];exact b,fun x hx=>?_⟩;rcases fQ hx with hx|rfl
  .exact h x hx
  .exact c
 .rw[A2O];exact⟨b,h⟩
def B1d{l:Option (List Gt)}(p:Int)(hp:p<=140737488351232)(h:∀ x ∈ el l,gOk x)(b:gOk g)(c:((el l).length:Int)<=140737488351232)(d:0<((el (M9 (some []) l)).length:Int)):p<=140737488351232/\((el (JS (M9 (some []) l) (at_%((el (M9 (some []) l)).length:Int)).toNat g)).length:Int)<=140737488351232/\∀ x ∈ el (JS (M9 (some []) l) (at_%((el (M9 (some []) l)).length:Int)).toNat g),gOk x:=by
 rw[<- B1e d];exact⟨hp,A7r h b c⟩
def B1f{l:Option (List Gt)}(p:Int)(hp:p<=140737488351232)(h:∀ x ∈ el l,gOk x)(b:((el l).length:Int)<=140737488351232):p<=140737488351232/\((el (M9 (some []) l)).length:Int)<=140737488351232/\∀ x ∈ el (M9 (some []) l),gOk x:=by
 rw[A2O];exact⟨hp,b,h⟩
def B3l{a n:Int}(h:0<n)(g:¬(0<=a%n/\a%n<n)):False:=g ⟨o9 _ A2,s8 _ h⟩
noncomputable def B2m:P0:=⟨_,fun b=>(.cons (A5V b) .nil)⟩
def FD:List U->Option (Nat×List U)
 | [.int .i64 p1,.int .i64 p2,.int .i64 p3,.int .i64 p4,.int .i64 p5,.int .i64 p6,.int .i64 p7,.str p8,u_l,.int .i64 z1,.int .i64 z2,.int .i64 z3,.int .i64 z4,.int .i64 z5,.int .i64 z6,.int .i64 z7,.str z8,.str zc,.bool zr,.int .u8 at_]=>(L8 rG u_l).bind fun l=>if(p8.length:Int)<=140737488351232/\((el l).length:Int)<=1000000000/\(∀ g ∈ el l,gOk g)/\gOk (z1,z2,z3,z4,z5,z6,z7,z8,zc,zr)/\0<=at_/\at_<256 then some (0,[.int .i64 (p1),.int .i64 (p2),.int .i64 (p3),.int .i64 (p4),.int .i64 (p5),.int .i64 (p6),.int .i64 (p7),.str (shT p8),D8 rG (shL (el (bnL l (z1,z2,z3,z4,z5,z6,z7,z8,zc,zr) at_)))])else none
 | _=>none
def A49(n:Int)(q:Int)(w:Int)(o:Int)(h:Int)(r:Int)(t:Int)(p8:B2)(l:(Option (List (Int×Int×Int×Int×Int×Int×Int×B2×B2×Bool))))(e:Int)(z2:Int)(z3:Int)(z4:Int)(z5:Int)(b:Int)(d:Int)(f:B2)(c:B2)(zr:Bool)(at_:Int)(A:(p8.length:Int)<=140737488351232/\((el l).length:Int)<=1000000000/\(∀ g ∈ el l,gOk g)/\gOk (e,z2,z3,z4,z5,b,d,f,c,zr)/\0<=at_/\at_<256):FD [.int .i64 n,.int .i64 q,.int .i64 w,.int .i64 o,.int .i64 h,.int .i64 r,.int .i64 t,.str p8,D8 rG l,.int .i64 e,.int .i64 z2,.int .i64 z3,.int .i64 z4,.int .i64 z5,.int .i64 b,.int .i64 d,.str f,.str c,.bool zr,.int .u8 at_]=some (0,[.int .i64 (n),.int .i64 (q),.int .i64 (w),.int .i64 (o),.int .i64 (h),.int .i64 (r),.int .i64 (t),.str (shT p8),D8 rG (shL (el (bnL l (e,z2,z3,z4,z5,b,d,f,c,zr) at_)))]):=by
 simp only[FD,G5,D9];exact A9 A
def A7s:Tr:=.dt 20 (.mk 10) []<|.dt 20 (.cat 10) [h 20 20,h 8 20]<|aD [h 21 20]<|aG [h3 22,jI 0]<|.br 23 (.lt 3 (.conv .i64) [h 19 4]<|.lt 3 (.bin .rem) [h3 24,h3 22]<|Z1 21 25 26 (.dt 20 (.set 10 0) [h 21 20,h3 25,h3 9,h3 10,h3 11,h3 12,h3 13,h3 14,h3 15,h 16 9,h 17 9,h 18 8]<|.fn qP [h3 0,h3 1,h3 2,h3 3,h3 4,h3 5,h3 6,h 7 9,h 27 20] 9<|.ret [h3 28,h3 29,h3 30,h3 31,h3 32,h3 33,h3 34,h 35 9,h 36 20])) (.fn qP [h3 0,h3 1,h3 2,h3 3,h3 4,h3 5,h3 6,h 7 9,h 21 20] 9<|.ret [h3 24,h3 25,h3 26,h3 27,h3 28,h3 29,h3 30,h 31 9,h 32 20])
def B1g{G}(f:K3 G):L2 prog G 12 [.a [3,3,3,3,3,3,3,9,20],.a [3,3,3,3,3,3,3,9,9,8],.s 4] FD [.a [3,3,3,3,3,3,3,9,20]]:=by
 refine F2 (d:=60) A7s (cxg (B2m.2 f) .nil) f ⟨f12,_,func12,rfl⟩ C4 C4 ?_;intro us outs c;unfold FD at c;split at c
 .skip;rename_i t B F w I D E p8 q H z2 z3 z4 z5 h C J A zr at_;have n:=B3.1 c;clear c;obtain⟨l,b,c⟩:=n;replace b:=I2 b;subst b;split at c
  .rename_i o;cases c;unfold A7s;refine s0L ?_;show Tr.sav _ _ (.cons 19 _ (.cons 18 _ (.cons 17 _ (.cons 16 _ (.cons 15 _ (.cons 14 _ (.cons 13 _ (.cons 12 _ (.cons 11 _ (.cons 10 _ (.cons 9 _ (.cons 8 _ (.cons 7 _ (.cons 6 _ (.cons 5 _ (.cons 4 _ (.cons 3 _ (.cons 2 _ (.cons 1 _ (.cons 0 _ (.nil)))))))))))))))))))));refine Wk.s ?_;repeat (first|refine w4 (fun g=>?_) fun g=>?_|refine xZ ?_|refine oU ?_|refine A3U ?_|refine w1 (.bin .rem) (e:=AK _ _ _ A2) (k':=?_)|(refine w3 qP (e:=RF _ _ _ _ _ _ _ _ _ (by first|exact B1d _ o.1 o.2.2.1 o.2.2.2.1 A2 ‹_›|exact B1f _ o.1 o.2.2.1 A2)) (k':=?_);show Wk _ _ (.cons _ _ (.cons _ _ (.cons _ _ (.cons _ _ (.cons _ _ (.cons _ _ (.cons _ _ (.cons _ _ (.cons _ _ _))))))))))|(refine w7 [.int .i64 _,.int .i64 _,.int .i64 _,.int .i64 _,.int .i64 _,.int .i64 _,.int .i64 _,.str _,D8 rG _] ?_;rotate_left)|refine w2 (.mk 10) (r:=rG) (e:=pM [] rfl F3 rfl) (k':=?_)|refine w2 (.cat 10) (r:=rG) (e:=TZ rfl (by show 0+_<=_;omega)) (k':=?_)|refine eN ?_|refine wE ?_|refine aF ?_|refine w2 (.set 10 0) (r:=rG) (e:=HN (_,_,_,_,_,_,_,_,_,_) rfl (A1 rfl) (by first|omega|exact o9 _ A2|exact s8 _ ‹_›) (by first|omega|exact o9 _ A2|exact s8 _ ‹_›) rfl) (k':=?_)|(refine w8 ?_;first|omega|exact B3l ‹_› ‹_›))
   all_goals
    first|(rw[B1e ‹_›];done)|(rw[B4I ‹_›];done)
  .cases c
 .cases c
def B32:List Gt:=[(1,37,0,0,0,0,0,[],[115,112,108,105,116,32,114,105,103,104,116],false),(1,34,0,0,0,0,0,[],[115,112,108,105,116,32,100,111,119,110],false),(1,120,0,0,0,0,0,[],[107,105,108,108],false),(1,1114113,0,0,0,0,0,[],[115,101,108,101,99,116,32,117,112],true),(1,1114114,0,0,0,0,0,[],[115,101,108,101,99,116,32,100,111,119,110],true),(1,1114115,0,0,0,0,0,[],[115,101,108,101,99,116,32,114,105,103,104,116],true),(1,1114116,0,0,0,0,0,[],[115,101,108,101,99,116,32,108,101,102,116],true),(1,1114113,4,0,0,0,0,[],[114,101,115,105,122,101,32,117,112,32,49],true),(1,1114114,4,0,0,0,0,[],[114,101,115,105,122,101,32,100,111,119,110,32,49],true),(1,1114115,4,0,0,0,0,[],[114,101,115,105,122,101,32,114,105,103,104,116,32,49],true),(1,1114116,4,0,0,0,0,[],[114,101,115,105,122,101,32,108,101,102,116,32,49],true),(1,111,0,0,0,0,0,[],[110,101,120,116,45,112,97,110,101],false),(1,122,0,0,0,0,0,[],[122,111,111,109],false),(1,61,0,0,0,0,0,[],[101,118,101,110],false),(1,99,0,0,0,0,0,[],[110,101,119,45,119,105,110,100,111,119],false),(1,110,0,0,0,0,0,[],[110,101,120,116,45,119,105,110,100,111,119],false),(1,112,0,0,0,0,0,[],[112,114,101,118,105,111,117,115,45,119,105,110,100,111,119],false),(1,48,0,0,0,0,0,[],[119,105,110,100,111,119,32,48],false),(1,49,0,0,0,0,0,[],[119,105,110,100,111,119,32,49],false),(1,50,0,0,0,0,0,[],[119,105,110,100,111,119,32,50],false),(1,51,0,0,0,0,0,[],[119,105,110,100,111,119,32,51],false),(1,52,0,0,0,0,0,[],[119,105,110,100,111,119,32,52],false),(1,53,0,0,0,0,0,[],[119,105,110,100,111,119,32,53],false),(1,54,0,0,0,0,0,[],[119,105,110,100,111,119,32,54],false),(1,55,0,0,0,0,0,[],[119,105,110,100,111,119,32,55],false),(1,56,0,0,0,0,0,[],[119,105,110,100,111,119,32,56],false),(1,57,0,0,0,0,0,[],[119,105,110,100,111,119,32,57],false),(1,1114125,0,0,0,0,0,[],[115,99,114,111,108,108,32,98,97,99,107,32,49,48],false),(1,100,0,0,0,0,0,[],[100,101,116,97,99,104],false)]
def rS:Rw B2:=r1 oK
def nmL:List B2:=[[85,112],[68,111,119,110],[82,105,103,104,116],[76,101,102,116],[69,110,100],[72,111,109,101],[70,49],[70,50],[70,51],[70,52],[73,110,115,101,114,116],[68,101,108,101,116,101],[80,97,103,101,85,112],[80,97,103,101,68,111,119,110],[70,53],[70,54],[70,55],[70,56],[70,57],[70,49,48],[70,49,49],[70,49,50],[69,110,116,101,114],[84,97,98],[66,97,99,107],[69,115,99,97,112,101]]
def A3b{R:Nat->Option Obj}{x:Option (List B2)}{vs:D3}(h:ShL R [.s 11,.s 9] [D8 rS x,.str sep] vs):∃ v,vs=[v,.string ⟨⟨sep⟩⟩]/\Enc R (D8 rS x) v:=by
 generalize hu:[D8 rS x,U.str sep]=us at h;cases h with
 | cons h1 c =>
   cases h1 with
   | s b t1 =>
     cases c with
     | cons h3 d =>
       cases h3 with
       | s e t2 =>
         cases d;simp only[T4,H1,L7,J8,and_true]at hu;obtain⟨rfl,rfl⟩:=hu
         have:=gF e (show toV (.str sep)=some (.string ⟨⟨sep⟩⟩)from rfl);subst this;exact⟨_,rfl,b⟩
def A2M{R:Nat->Option Obj}{x:Option (List B2)}{v:Value}(h:Enc R (D8 rS x) v):(el x=[]/\∃ a c,v=.slice a 0 c)∨∃ a o c C T fz,v=.slice (some ⟨a,o,none⟩) (el x).length c/\(el x).length<=c/\(el x≠[]->R a=some (.cells C T fz))/\∀ (j:Nat) (s:B2),(el x)[j]? = some s->C[o+j]? = some (.string ⟨⟨s⟩⟩):=by
 rw[O6]at h;generalize hu:U.seq _ _ _=u at h;cases h with
 | sc h=>subst hu;cases h
 | nil =>
   injection hu with h1 h2 h3
   exact .inl ⟨by simpa using h3,_,_,rfl⟩
 | emp =>
   injection hu with h1 h2 h3
   exact .inl ⟨by simpa using h3,_,_,rfl⟩
 | sl t A n hw h =>
   rename_i w rows a o c C T fz;injection hu with h1 h2 h3
   subst h3;have f:w=1:=h2.symm;subst f;have r:((el x).map rS.enc).length=(el x).length:=E9 ..;rw[r]at t n;refine .inr ⟨a,o,c,C,T,fz,by rw[r],t,fun q=>A (by simpa using q),fun j s d=>?_⟩;have q:(el x).map rS.enc≠[]:=by intro e;rw[List.map_eq_nil_iff.1 e]at d;cases d
   have B:j<(el x).length:=(B1.1 d).1;have n:=n q;have b:o+j<C.size:=A2
   have:=h j (rS.enc s) 0 (.str s) C[o+j] (by rw[F9,d];rfl) rfl (by rw[Nat.mul_one,jV];exact F5 b);rw[F5 b,gF this (show toV (.str s)=some (.string ⟨⟨s⟩⟩)from rfl)]
def jnS(x:Option (List B2))(sep:B2):B2:=Lib.join (el x) sep
def A1F(l:List B2):(l.map (fun s=>ByteArray.mk ⟨s⟩)).map (·.data.toList)=l:=by
 rw[jX];exact(dR fun _ _=>rfl).trans (List.map_id _)
def WK:List U->Option (Nat×List U)
 | [u_x,.str sep]=>(L8 rS u_x).bind fun x=>if((el x).length:Int)<=1000000/\(jnS x sep).length<=1000000000 then some (0,[.str (jnS x sep)])else none
 | _=>none
def A8w(x:(Option (List B2)))(sep:B2)(b:((el x).length:Int)<=1000000/\(jnS x sep).length<=1000000000):WK [D8 rS x,.str sep]=some (0,[.str (jnS x sep)]):=by
 simp only[WK,G5,D9];exact A9 b
def B3v{G}(h:K3 G):L2 prog G 93 [.s 11,.s 9] WK [.s 9]:=by
 intro us outs w vs R r b E hR;unfold WK at b;split at b
 .skip;rename_i A sep;have n:=B3.1 b;clear b;obtain⟨x,d,b⟩:=n;replace d:=I2 d;subst d;split at b
  .rename_i B;cases b;refine gI (vr:=[.string ⟨⟨jnS x sep⟩⟩]) func93 rfl C4 rfl ?_;obtain⟨v,rfl,hv⟩:=A3b r;rcases A2M hv with⟨h0,a,c,rfl⟩|⟨a,o,c,C,T,fz,rfl,h1,D,h3⟩
   .refine((Tryz.strings_Join_none a c ⟨⟨sep⟩⟩ w).mono fun e w' ⟨g1,g2⟩=>⟨?_,by subst g2;exact RowKit.Below.refl _ _⟩);rw[g1];unfold jnS;rw[h0];rfl
   .by_cases q:el x=[]
    .rw[q];refine((Tryz.strings_Join_none _ c ⟨⟨sep⟩⟩ w).mono fun e w' ⟨g1,g2⟩=>⟨?_,by subst g2;exact RowKit.Below.refl _ _⟩);rw[g1];unfold jnS;rw[q];rfl
    .have t:=D q;have hw:=hR _ _ t;have key:=Tryz.strings_Join a o c ((el x).map (fun s=>ByteArray.mk ⟨s⟩)) ⟨⟨sep⟩⟩ w (fun j y f=>?_) (hR.lt t) (by rw[E9];omega) (by rw[E9];exact h1) (by rw[A1F];show(jnS x sep).length<=_;have:=B.2;omega)
     .rw[E9]at key;refine(key.mono fun e w' ⟨g1,g2⟩=>⟨?_,g2⟩);rw[g1,A1F];rfl
     .rw[F9]at f;cases b:(el x)[j]? with
      | none=>rw[b]at f;cases f
      | some s =>
        rw[b]at f;cases f;simp only[World.cell?,hw];exact h3 j s b
  .cases b
 .cases b
noncomputable def B2M:P0:=⟨_,fun b=>.nil⟩
def zD:List U->Option (Nat×List U)
 | []=>some (0,[D8 rS (some nmL)])
 | _=>none
def SL :zD []=some (0,[D8 rS (some nmL)]):=rfl
def A05{G}(b:K3 G):L2 prog G 89 [] zD [.s 11]:=by
 refine gU (d:=60) (cxg (B2M.2 b) .nil) b ⟨f89,_,func89,rfl⟩ ?_;intro us outs c;unfold zD at c;split at c
 .cases c;exact⟨[],by kernel_rfl⟩
 .cases c
def TF(x:Option (List B2)):jnS x []=(el x).flatten:=by
 unfold jnS Lib.join;generalize el x=l;have h:∀ l:List B2,(List.intersperse [] l).flatten=l.flatten:=fun l=>by
  induction l with
  | nil=>rfl
  | cons a l c =>
    cases l with
    | nil=>rfl
    | cons b l=>rw[List.intersperse_cons_cons,L3,L3,c,L3 (l:=a)];rfl
 exact h l
noncomputable def B2W:P0:=⟨_,fun b=>(.cons (B3v b) .nil)⟩
def aV:List U->Option (Nat×List U)
 | [u_x]=>(L8 rS u_x).bind fun x=>if((el x).length:Int)<=1000000/\((el x).flatten.length:Int)<=1000000000 then some (0,[.str ((el x).flatten)])else none
 | _=>none
def xJ(x:(Option (List B2)))(b:((el x).length:Int)<=1000000/\((el x).flatten.length:Int)<=1000000000):aV [D8 rS x]=some (0,[.str ((el x).flatten)]):=by
 simp only[aV,G5,D9];exact A9 b
def L1(a0:Nat):Tr:=.ret [h a0 9]
def A63:Tr:=.fn WK [h 0 11,.string ⟨⟨[]⟩⟩] 1<|L1 1
def LO{G}(n:K3 G):L2 prog G 58 [.s 11] aV [.s 9]:=by
 refine F2 (d:=60) A63 (cxg (B2W.2 n) .nil) n ⟨f58,_,func58,rfl⟩ C4 C4 ?_;intro us outs c;unfold aV at c;split at c
 .skip;rename_i q;have f:=B3.1 c;clear c;obtain⟨x,b,c⟩:=f;replace b:=I2 b;subst b;split at c
  .rename_i o;cases c;unfold A63;refine w0 (.cons 0 _ (.nil)) ?_;repeat (first|refine w31 WK (e:=A8w _ _ ⟨o.1,by rw[TF];omega⟩) (k':=?_)|(refine w7 [.str _] ?_;rotate_left))
   all_goals
    first|(rw[TF];done)
  .cases c
 .cases c
def JV:List U->Option (Nat×List U)
 | [.str s,.int .i64 c]=>if 0<=c/\c<=1000/\(s.length:Int)<=1000 then some (0,[.str (Lib.repeatL s c.toNat)])else none
 | _=>none
def A3j(s:B2)(c:Int)(b:0<=c/\c<=1000/\(s.length:Int)<=1000):JV [.str s,.int .i64 c]=some (0,[.str (Lib.repeatL s c.toNat)]):=A9 b
def A9x{G}(o:K3 G):L2 prog G 34 [.s 9,.s 3] JV [.s 9]:=by
 intro us outs w vs R d b r hR;unfold JV at b;split at b
 .skip;rename_i s c;split at b
  .rename_i t;cases b;have hv:=V4 (vs2:=[.string ⟨⟨s⟩⟩,.int .i64 c]) d rfl;subst hv;refine gI (vr:=[.string ⟨⟨Lib.repeatL s c.toNat⟩⟩]) func34 rfl C4 rfl ?_;obtain⟨n,rfl⟩:∃ n:Nat,c=n:=⟨c.toNat,A2⟩;have f:s.length*n<=140737488355328:=C6 (fK (show s.length<=1000 by omega) (show n<=1000 by omega)) F3;exact(Tryz.strings_Repeat ⟨⟨s⟩⟩ n w A2 f).mono fun e w' ⟨h1,q⟩=>⟨h1,q⟩
  .cases b
 .cases b
def JA:List U->Option (Nat×List U)
 | [.str s]=>if(s.length:Int)<=1000/\(∀ b ∈ s,b.toNat<128)then some (0,[.str (Lib.toUpperA s)])else none
 | _=>none
def A3T(s:B2)(c:(s.length:Int)<=1000/\(∀ b ∈ s,b.toNat<128)):JA [.str s]=some (0,[.str (Lib.toUpperA s)]):=A9 c
def A9h{G}(f:K3 G):L2 prog G 107 [.s 9] JA [.s 9]:=by
 intro us outs w vs R d c r hR;unfold JA at c;split at c
 .skip;rename_i s;split at c
  .rename_i n;cases c;have hv:=V4 (vs2:=[.string ⟨⟨s⟩⟩]) d rfl;subst hv;refine gI (vr:=[.string ⟨⟨Lib.toUpperA s⟩⟩]) func107 rfl C4 rfl ?_;exact(Tryz.strings_ToUpper_ascii ⟨⟨s⟩⟩ w (by show s.length<=_;omega) (fun j b q=>by have:=n.2 b (D1 q);omega)).mono fun e w' ⟨h1,o⟩=>⟨h1,o⟩
  .cases c
 .cases c
def hU(d:Int):UInt8:=([48,49,50,51,52,53,54,55,56,57,65,66,67,68,69,70]:B2).getD d.toNat 0
def w9(c:Int):B2:=if c<65536 then[hU (c / 4096%16),hU (c / 256%16),hU (c / 16%16),hU (c%16)]else if c<1048576 then[hU (c / 65536%16),hU (c / 4096%16),hU (c / 256%16),hU (c / 16%16),hU (c%16)]else[hU (c / 1048576%16),hU (c / 65536%16),hU (c / 4096%16),hU (c / 256%16),hU (c / 16%16),hU (c%16)]
def v7(c:Int):B2:=if 1114113<=c then nmL.getD (c-1114113).toNat []else if c=32 then[83,112,97,99,101]else if c<=126 then[UInt8.ofNat c.toNat]else[85,43]++w9 c
def cc{a b:UInt8}{l:B2}(h:a=b)(k:l=m):a::l=b::m:=by rw[h,k]
def WI{n m:Nat}(h:Nat.ble n m=true):(n:Int)<=(m:Int):=eD.2 (A1 h)
def hx(d:Int):Int:=((([48,49,50,51,52,53,54,55,56,57,97,98,99,100,101,102,103,104,105,106,107,108,109,110,111,112,113,114,115,116,117,118,119,120,121,122]:B2).getD d.toNat 0).toNat:Int)
def uA(d:Int):0<=hx d/\hx d<128:=by
 unfold hx;rcases G1 d.toNat 36 with h|h
 .have k:∀ n:Nat,n<36->(([48,49,50,51,52,53,54,55,56,57,97,98,99,100,101,102,103,104,105,106,107,108,109,110,111,112,113,114,115,116,117,118,119,120,121,122]:B2).getD n 0).toNat<128:=F3
  have:=k _ h;omega
 .rw[B0,fR.2 h];decide
def U4(d:Int):0<=hx d/\hx d<256:=by have:=uA d;omega
def t6{d:Int}(h0:0<=d)(h1:d<16):Lib.upperB (UInt8.ofNat (hx d).toNat)=hU d:=by
 have k:∀ n:Nat,n<16->Lib.upperB (UInt8.ofNat (((([48,49,50,51,52,53,54,55,56,57,97,98,99,100,101,102,103,104,105,106,107,108,109,110,111,112,113,114,115,116,117,118,119,120,121,122]:B2).getD n 0).toNat:Int)).toNat)=([48,49,50,51,52,53,54,55,56,57,65,66,67,68,69,70]:B2).getD n 0:=F3;exact k d.toNat A2
def B1C{d:Int}(h0:0<=d)(h1:d<36):evU .idx [.str [48,49,50,51,52,53,54,55,56,57,97,98,99,100,101,102,103,104,105,106,107,108,109,110,111,112,113,114,115,116,117,118,119,120,121,122],.int .u64 d]=.int .u8 (hx d):=QC _ _ _ h0 (by show _<((36:Nat):Int);omega)
attribute [irreducible] hx
def XP(l:List Int):(Lib.toUpperA (iB l)).length=l.length:=by unfold Lib.toUpperA iB;rw[E9,E9]
def B23(h:l.length<=6)(e:∀ x ∈ l,0<=x/\x<128):((iB l).length:Int)<=1000/\(∀ b ∈ iB l,b.toNat<128):=by
 unfold iB;refine⟨by rw[E9];omega,fun b d=>?_⟩;obtain⟨x,c,rfl⟩:=I6.1 d
 have:=e x c;show(UInt8.ofNat x.toNat).toNat<128;rw[UInt8.toNat_ofNat',g7 A2];omega
def B27(h:l.length<=6):IntKind.i64.wrap (4-((Lib.toUpperA (iB l)).length:Int))=4-((Lib.toUpperA (iB l)).length:Int):=by
 rw[XP];exact iR A2 A2
def B3u(h:l.length<=6):((el (some [[85,43],Lib.repeatL [48] (max 0 (4-((Lib.toUpperA (iB l)).length:Int))).toNat,Lib.toUpperA (iB l)])).length:Int)<=1000000/\((el (some [[85,43],Lib.repeatL [48] (max 0 (4-((Lib.toUpperA (iB l)).length:Int))).toNat,Lib.toUpperA (iB l)])).flatten.length:Int)<=1000000000:=by
 refine⟨WI (m:=1000000) rfl,?_⟩;rw[K6];simp only[L3,S9,L7,B4,Lib.repeatL_length,XP,C8,J7];omega
def B3I(h:l.length<=6):0<=max 0 (4-((Lib.toUpperA (iB l)).length:Int))/\max 0 (4-((Lib.toUpperA (iB l)).length:Int))<=1000/\((([48]:B2).length:Nat):Int)<=1000:=⟨A2,A2,WI (m:=1000) rfl⟩
def XN(b:UInt8):0<=(b.toNat:Int)/\(b.toNat:Int)<256:=by have:=b.toNat_lt;omega
def A42{c:Int}(h:1114113<=c):v7 c=nmL.getD (c-1114113).toNat []:=A9 h
def NG{c:Int}(h:¬1114113<=c)(b:¬c=32)(h3:¬c<=126):v7 c=[85,43]++w9 c:=by unfold v7;rw[A7 h,A7 b,A7 h3]
def A44{c:Int}(h:¬1114113<=c)(b:¬c=32)(h3:c<=126):v7 c=[UInt8.ofNat c.toNat]:=by unfold v7;rw[A7 h,A7 b,A9 h3]
def A43{c:Int}(b:c=32):v7 c=[83,112,97,99,101]:=by subst b;rfl
def A2t{c:Int}(b:z=u)(hu:Lib.repeatL [48] (max 0 (4-(u.length:Int))).toNat++u=w9 c)(d:v7 c=[85,43]++w9 c):(el (some [[85,43],Lib.repeatL [48] (max 0 (4-(z.length:Int))).toNat,z])).flatten=v7 c:=by
 subst b;rw[d,<- hu,K6];simp only[L3,S9,L7]
def B4O{c:Int}(h0:0<=c)(h1:c<256):Lib.toUpperA (iB [hx (c / 16),hx (c%16)])=[hU (c / 16%16),hU (c%16)]:=by
 show[Lib.upperB (UInt8.ofNat (hx (c / 16)).toNat),Lib.upperB (UInt8.ofNat (hx (c%16)).toNat)]=_;rw[t6 (d:=c / 16) A2 A2,t6 (d:=c%16) A2 A2];exact cc (E1 hU A2) (cc (E1 hU A2) (rfl))
def B4F{c:Int}(h0:0<=c)(h1:c<256):Lib.repeatL [48] (max 0 (4-(([hU (c / 16%16),hU (c%16)]:B2).length:Int))).toNat++[hU (c / 16%16),hU (c%16)]=w9 c:=by
 unfold w9;rw[A9 A2];rw[show c / 4096%16=0 by omega];rw[show c / 256%16=0 by omega];rfl
def B4N{c:Int}(h0:0<=c)(h1:c<4096):Lib.toUpperA (iB [hx (c / 16 / 16),hx (c / 16%16),hx (c%16)])=[hU (c / 256%16),hU (c / 16%16),hU (c%16)]:=by
 show[Lib.upperB (UInt8.ofNat (hx (c / 16 / 16)).toNat),Lib.upperB (UInt8.ofNat (hx (c / 16%16)).toNat),Lib.upperB (UInt8.ofNat (hx (c%16)).toNat)]=_;rw[t6 (d:=c / 16 / 16) A2 A2,t6 (d:=c / 16%16) A2 A2,t6 (d:=c%16) A2 A2];exact cc (E1 hU A2) (cc (E1 hU A2) (cc (E1 hU A2) (rfl)))
def B4E{c:Int}(h0:0<=c)(h1:c<4096):Lib.repeatL [48] (max 0 (4-(([hU (c / 256%16),hU (c / 16%16),hU (c%16)]:B2).length:Int))).toNat++[hU (c / 256%16),hU (c / 16%16),hU (c%16)]=w9 c:=by
 unfold w9;rw[A9 A2];rw[show c / 4096%16=0 by omega];rfl
def B4M{c:Int}(h0:0<=c)(h1:c<65536):Lib.toUpperA (iB [hx (c / 16 / 16 / 16),hx (c / 16 / 16%16),hx (c / 16%16),hx (c%16)])=[hU (c / 4096%16),hU (c / 256%16),hU (c / 16%16),hU (c%16)]:=by
 show[Lib.upperB (UInt8.ofNat (hx (c / 16 / 16 / 16)).toNat),Lib.upperB (UInt8.ofNat (hx (c / 16 / 16%16)).toNat),Lib.upperB (UInt8.ofNat (hx (c / 16%16)).toNat),Lib.upperB (UInt8.ofNat (hx (c%16)).toNat)]=_;rw[t6 (d:=c / 16 / 16 / 16) A2 A2,t6 (d:=c / 16 / 16%16) A2 A2,t6 (d:=c / 16%16) A2 A2,t6 (d:=c%16) A2 A2];exact cc (E1 hU A2) (cc (E1 hU A2) (cc (E1 hU A2) (cc (E1 hU A2) (rfl))))
def B4D{c:Int}(h0:0<=c)(h1:c<65536):Lib.repeatL [48] (max 0 (4-(([hU (c / 4096%16),hU (c / 256%16),hU (c / 16%16),hU (c%16)]:B2).length:Int))).toNat++[hU (c / 4096%16),hU (c / 256%16),hU (c / 16%16),hU (c%16)]=w9 c:=by
 unfold w9;rw[A9 A2];rfl
def B4L{c:Int}(h0:0<=c)(h1:c<1048576):Lib.toUpperA (iB [hx (c / 16 / 16 / 16 / 16),hx (c / 16 / 16 / 16%16),hx (c / 16 / 16%16),hx (c / 16%16),hx (c%16)])=[hU (c / 65536%16),hU (c / 4096%16),hU (c / 256%16),hU (c / 16%16),hU (c%16)]:=by
 show[Lib.upperB (UInt8.ofNat (hx (c / 16 / 16 / 16 / 16)).toNat),Lib.upperB (UInt8.ofNat (hx (c / 16 / 16 / 16%16)).toNat),Lib.upperB (UInt8.ofNat (hx (c / 16 / 16%16)).toNat),Lib.upperB (UInt8.ofNat (hx (c / 16%16)).toNat),Lib.upperB (UInt8.ofNat (hx (c%16)).toNat)]=_;rw[t6 (d:=c / 16 / 16 / 16 / 16) A2 A2,t6 (d:=c / 16 / 16 / 16%16) A2 A2,t6 (d:=c / 16 / 16%16) A2 A2,t6 (d:=c / 16%16) A2 A2,t6 (d:=c%16) A2 A2];exact cc (E1 hU A2) (cc (E1 hU A2) (cc (E1 hU A2) (cc (E1 hU A2) (cc (E1 hU A2) (rfl)))))
def B4C{c:Int}(h0:0<=c)(h1:c<1048576)(b:65536<=c):Lib.repeatL [48] (max 0 (4-(([hU (c / 65536%16),hU (c / 4096%16),hU (c / 256%16),hU (c / 16%16),hU (c%16)]:B2).length:Int))).toNat++[hU (c / 65536%16),hU (c / 4096%16),hU (c / 256%16),hU (c / 16%16),hU (c%16)]=w9 c:=by
 unfold w9;rw[A7 A2,A9 A2];rfl
def B4K{c:Int}(h0:0<=c)(h1:c<16777216):Lib.toUpperA (iB [hx (c / 16 / 16 / 16 / 16 / 16),hx (c / 16 / 16 / 16 / 16%16),hx (c / 16 / 16 / 16%16),hx (c / 16 / 16%16),hx (c / 16%16),hx (c%16)])=[hU (c / 1048576%16),hU (c / 65536%16),hU (c / 4096%16),hU (c / 256%16),hU (c / 16%16),hU (c%16)]:=by
 show[Lib.upperB (UInt8.ofNat (hx (c / 16 / 16 / 16 / 16 / 16)).toNat),Lib.upperB (UInt8.ofNat (hx (c / 16 / 16 / 16 / 16%16)).toNat),Lib.upperB (UInt8.ofNat (hx (c / 16 / 16 / 16%16)).toNat),Lib.upperB (UInt8.ofNat (hx (c / 16 / 16%16)).toNat),Lib.upperB (UInt8.ofNat (hx (c / 16%16)).toNat),Lib.upperB (UInt8.ofNat (hx (c%16)).toNat)]=_;rw[t6 (d:=c / 16 / 16 / 16 / 16 / 16) A2 A2,t6 (d:=c / 16 / 16 / 16 / 16%16) A2 A2,t6 (d:=c / 16 / 16 / 16%16) A2 A2,t6 (d:=c / 16 / 16%16) A2 A2,t6 (d:=c / 16%16) A2 A2,t6 (d:=c%16) A2 A2];exact cc (E1 hU A2) (cc (E1 hU A2) (cc (E1 hU A2) (cc (E1 hU A2) (cc (E1 hU A2) (cc (E1 hU A2) (rfl))))))
def B4B{c:Int}(h0:0<=c)(h1:c<16777216)(b:1048576<=c):Lib.repeatL [48] (max 0 (4-(([hU (c / 1048576%16),hU (c / 65536%16),hU (c / 4096%16),hU (c / 256%16),hU (c / 16%16),hU (c%16)]:B2).length:Int))).toNat++[hU (c / 1048576%16),hU (c / 65536%16),hU (c / 4096%16),hU (c / 256%16),hU (c / 16%16),hU (c%16)]=w9 c:=by
 unfold w9;rw[A7 A2,A7 A2];rfl
noncomputable def B2n:P0:=⟨_,fun b=>(.cons (A05 b) (.cons (LO b) (.cons (A9x b) (.cons (A9h b) .nil))))⟩
def FF:List U->Option (Nat×List U)
 | [.int .i64 c]=>if(32<=c/\c<=126)∨(160<=c/\c<=1114111)∨(1114113<=c/\c<=1114138)then some (0,[.str (v7 c)])else none
 | _=>none
def A4_(c:Int)(b:(32<=c/\c<=126)∨(160<=c/\c<=1114111)∨(1114113<=c/\c<=1114138)):FF [.int .i64 c]=some (0,[.str (v7 c)]):=A9 b
def nD(a0:Nat):Tr:=.fn JA [h a0 9] 1<|aD [h (a0+1) 9]<|aS [jI 4,h3 (a0+2)]<|.lt 3 (.max) [jI 0,h3 (a0+3)]<|.fn JV [.string ⟨⟨[48]⟩⟩,h3 (a0+4)] 1<|.dt 11 (.mk 1) [.string ⟨⟨[85,43]⟩⟩,h (a0+5) 9,h (a0+1) 9]<|.fn aV [h (a0+6) 11] 1<|.ret [h (a0+7) 9]
def wX(a0:Nat)(b:Nat)(d c:Tr):Tr:=.lt 7 (.bin .and) [h a0 7,.int .u64 (15)]<|.lt 4 (.idx) [.string ⟨⟨[48,49,50,51,52,53,54,55,56,57,97,98,99,100,101,102,103,104,105,106,107,108,109,110,111,112,113,114,115,116,117,118,119,120,121,122]⟩⟩,h b 7]<|.lt 7 (.bin .shr) [h a0 7,.int .u64 (4)]<|aH [h (b+2) 7,.int .u64 (16)]<|.br (b+3) d c
def A7t:Tr:=J4 0 1 1114113 (.fn zD [] 1<|aS [h3 0,jI 1114113]<|dV 2 3 4 (.lt 9 (.get 1 0) [h 2 11,h3 3]<|L1 5)) (J1 0 2 32 (.ret [.string ⟨⟨[83,112,97,99,101]⟩⟩]) (S2 0 3 126 (.lt 4 (.conv .u8) [h3 0]<|.lt 9 (.mks) [h 4 4]<|L1 5) (.lt 7 (.conv .u64) [h3 0]<|aL [h3 0,jI 0]<|.br 5 (.no) (aH [h 4 7,.int .u64 (16)]<|.br 6 (wX 4 7 (wX 9 11 (wX 13 15 (wX 17 19 (.lt 7 (.bin .and) [h 21 7,.int .u64 (15)]<|.lt 4 (.idx) [.string ⟨⟨[48,49,50,51,52,53,54,55,56,57,97,98,99,100,101,102,103,104,105,106,107,108,109,110,111,112,113,114,115,116,117,118,119,120,121,122]⟩⟩,h 23 7]<|.lt 7 (.bin .shr) [h 21 7,.int .u64 (4)]<|aH [h 25 7,.int .u64 (16)]<|.br 26 (.no) (.lt 4 (.idx) [.string ⟨⟨[48,49,50,51,52,53,54,55,56,57,97,98,99,100,101,102,103,104,105,106,107,108,109,110,111,112,113,114,115,116,117,118,119,120,121,122]⟩⟩,h 25 7]<|.lt 9 (.mks) [h 27 4,h 24 4,h 20 4,h 16 4,h 12 4,h 8 4]<|nD 28)) (.lt 4 (.idx) [.string ⟨⟨[48,49,50,51,52,53,54,55,56,57,97,98,99,100,101,102,103,104,105,106,107,108,109,110,111,112,113,114,115,116,117,118,119,120,121,122]⟩⟩,h 21 7]<|.lt 9 (.mks) [h 23 4,h 20 4,h 16 4,h 12 4,h 8 4]<|nD 24)) (.lt 4 (.idx) [.string ⟨⟨[48,49,50,51,52,53,54,55,56,57,97,98,99,100,101,102,103,104,105,106,107,108,109,110,111,112,113,114,115,116,117,118,119,120,121,122]⟩⟩,h 17 7]<|.lt 9 (.mks) [h 19 4,h 16 4,h 12 4,h 8 4]<|nD 20)) (.lt 4 (.idx) [.string ⟨⟨[48,49,50,51,52,53,54,55,56,57,97,98,99,100,101,102,103,104,105,106,107,108,109,110,111,112,113,114,115,116,117,118,119,120,121,122]⟩⟩,h 13 7]<|.lt 9 (.mks) [h 15 4,h 12 4,h 8 4]<|nD 16)) (.lt 4 (.idx) [.string ⟨⟨[48,49,50,51,52,53,54,55,56,57,97,98,99,100,101,102,103,104,105,106,107,108,109,110,111,112,113,114,115,116,117,118,119,120,121,122]⟩⟩,h 9 7]<|.lt 9 (.mks) [h 11 4,h 8 4]<|nD 12)) (.lt 4 (.idx) [.string ⟨⟨[48,49,50,51,52,53,54,55,56,57,97,98,99,100,101,102,103,104,105,106,107,108,109,110,111,112,113,114,115,116,117,118,119,120,121,122]⟩⟩,h 4 7]<|.lt 9 (.mks) [h 7 4]<|nD 8)))))
def B1h{G}(o:K3 G):L2 prog G 84 [.s 3] FF [.s 9]:=by
 refine F2 (d:=60) A7t (cxg (B2n.2 o) .nil) o ⟨f84,_,func84,rfl⟩ C4 C4 ?_;intro us outs f;unfold FF at f;split at f
 .skip;rename_i c;split at f
  .rename_i t;cases f;have q:((el (some nmL)).length:Int)=26:=rfl;unfold A7t;refine w0 (.cons 0 _ (.nil)) ?_;repeat (first|refine w4 (fun g=>?_) fun g=>?_|refine w1 (.idx) (e:=B1C A2 A2) (k':=?_)|(refine w7 [.str _] ?_;rotate_left)|refine kU ?_|refine w31 JA (e:=A3T _ (B23 (A1 rfl) (by intro n b;simp only[B6,K4,or_false]at b;first|omega|(rcases b with rfl|rfl|rfl|rfl|rfl|rfl<;>exact uA _)|(rcases b with rfl|rfl|rfl|rfl|rfl<;>exact uA _)|(rcases b with rfl|rfl|rfl|rfl<;>exact uA _)|(rcases b with rfl|rfl|rfl<;>exact uA _)|(rcases b with rfl|rfl<;>exact uA _)))) (k':=?_)|refine gS ?_|refine w1 (.bin .sub) (e:=TU (B27 (A1 rfl))) (k':=?_)|refine B25 ?_|refine w31 JV (e:=A3j _ _ (B3I (A1 rfl))) (k':=?_)|refine w2 (.mk 1) (r:=rS) (e:=pM [_,_,_] rfl F3 rfl) (k':=?_)|refine w31 aV (e:=xJ _ (B3u (A1 rfl))) (k':=?_)|refine w1 (.bin .and) (e:=UC 4 16 F3 F3 F3) (k':=?_)|refine w1 (.bin .shr) (e:=TV 16 F3 F3) (k':=?_)|refine xZ ?_|refine oU ?_|(refine w8 ?_;first|omega)|refine UZ ?_|refine CP ?_|refine w1 (.mks) (e:=pL [_] (by intro n b;simp only[B6,K4,or_false]at b;first|omega|(rcases b with rfl|rfl|rfl|rfl|rfl|rfl<;>exact U4 _)|(rcases b with rfl|rfl|rfl|rfl|rfl<;>exact U4 _)|(rcases b with rfl|rfl|rfl|rfl<;>exact U4 _)|(rcases b with rfl|rfl|rfl<;>exact U4 _)|(rcases b with rfl|rfl<;>exact U4 _))) (k':=?_)|refine w31 zD (e:=SL) (k':=?_)|refine aF ?_|refine w1 (.get 1 0) (u:=.str _) (e:=C9 rfl A2 A2 rfl) (k':=?_)|refine fO ?_|refine qJ ?_|refine aB ?_|refine w1 (.mks) (e:=pL [_,_,_,_,_,_] (by intro n b;simp only[B6,K4,or_false]at b;first|omega|(rcases b with rfl|rfl|rfl|rfl|rfl|rfl<;>exact U4 _)|(rcases b with rfl|rfl|rfl|rfl|rfl<;>exact U4 _)|(rcases b with rfl|rfl|rfl|rfl<;>exact U4 _)|(rcases b with rfl|rfl|rfl<;>exact U4 _)|(rcases b with rfl|rfl<;>exact U4 _))) (k':=?_)|refine w1 (.mks) (e:=pL [_,_,_,_,_] (by intro n b;simp only[B6,K4,or_false]at b;first|omega|(rcases b with rfl|rfl|rfl|rfl|rfl|rfl<;>exact U4 _)|(rcases b with rfl|rfl|rfl|rfl|rfl<;>exact U4 _)|(rcases b with rfl|rfl|rfl|rfl<;>exact U4 _)|(rcases b with rfl|rfl|rfl<;>exact U4 _)|(rcases b with rfl|rfl<;>exact U4 _))) (k':=?_)|refine w1 (.mks) (e:=pL [_,_,_,_] (by intro n b;simp only[B6,K4,or_false]at b;first|omega|(rcases b with rfl|rfl|rfl|rfl|rfl|rfl<;>exact U4 _)|(rcases b with rfl|rfl|rfl|rfl|rfl<;>exact U4 _)|(rcases b with rfl|rfl|rfl|rfl<;>exact U4 _)|(rcases b with rfl|rfl|rfl<;>exact U4 _)|(rcases b with rfl|rfl<;>exact U4 _))) (k':=?_)|refine w1 (.mks) (e:=pL [_,_,_] (by intro n b;simp only[B6,K4,or_false]at b;first|omega|(rcases b with rfl|rfl|rfl|rfl|rfl|rfl<;>exact U4 _)|(rcases b with rfl|rfl|rfl|rfl|rfl<;>exact U4 _)|(rcases b with rfl|rfl|rfl|rfl<;>exact U4 _)|(rcases b with rfl|rfl|rfl<;>exact U4 _)|(rcases b with rfl|rfl<;>exact U4 _))) (k':=?_)|refine w1 (.mks) (e:=pL [_,_] (by intro n b;simp only[B6,K4,or_false]at b;first|omega|(rcases b with rfl|rfl|rfl|rfl|rfl|rfl<;>exact U4 _)|(rcases b with rfl|rfl|rfl|rfl|rfl<;>exact U4 _)|(rcases b with rfl|rfl|rfl|rfl<;>exact U4 _)|(rcases b with rfl|rfl|rfl<;>exact U4 _)|(rcases b with rfl|rfl<;>exact U4 _))) (k':=?_))
   all_goals
    first
    | (exfalso;omega)
    | exact E1 (fun z=>[U.str z]) (A42 ‹_›).symm
    | exact E1 (fun z=>[U.str z]) (A43 ‹_›).symm
    | (rw[A44 ‹_› ‹_› ‹_›];rfl)
    | exact E1 (fun z=>[U.str z]) (A2t (B4O A2 A2) (B4F A2 A2) (NG ‹_› ‹_› ‹_›))
    | exact E1 (fun z=>[U.str z]) (A2t (B4N A2 A2) (B4E A2 A2) (NG ‹_› ‹_› ‹_›))
    | exact E1 (fun z=>[U.str z]) (A2t (B4M A2 A2) (B4D A2 A2) (NG ‹_› ‹_› ‹_›))
    | exact E1 (fun z=>[U.str z]) (A2t (B4L A2 A2) (B4C A2 A2 A2) (NG ‹_› ‹_› ‹_›))
    | exact E1 (fun z=>[U.str z]) (A2t (B4K A2 A2) (B4B A2 A2 A2) (NG ‹_› ‹_› ‹_›))
  .cases f
 .cases f
end
section
open Go Go.Sx Go.Proofs.Tryz
def A9l{x:Int}(h0:0<=x)(h1:x<16):(([48,49,50,51,52,53,54,55,56,57,65,66,67,68,69,70]:B2).drop x.toNat).take ((x+1).toNat-x.toNat)=[hU x]:=by
 have k:∀ n:Nat,n<16->(([48,49,50,51,52,53,54,55,56,57,65,66,67,68,69,70]:B2).drop n).take 1=[([48,49,50,51,52,53,54,55,56,57,65,66,67,68,69,70]:B2).getD n 0]:=F3;rw[show(x+1).toNat-x.toNat=1 by omega];exact k x.toNat A2
def B1D{x:Int}(h0:0<=x)(h1:x<16)(b:y=x+1):evU .sub [.str [48,49,50,51,52,53,54,55,56,57,65,66,67,68,69,70],.int j x,.int k y]=.str [hU x]:=by
 subst b;rw[eA _ _ _ _ _ h0 A2 (by show _<=((16:Nat):Int);omega),A9l h0 h1]
def N7(x:Xt):B2:=(if x.2.2.1 / 4%2*4=0 then[]else[67,45])++((if x.2.2.1 / 2%2*2=0 then[]else[77,45])++((if x.2.2.1 / 1%2*1=0 then[]else[83,45])++v7 x.2.1))
noncomputable def B2b:P0:=⟨_,fun b=>.nil⟩
def kJ:List U->Option (Nat×List U)
 | [.int .i64 c]=>if 160<=c/\c<=1114111 then some (0,[.str (w9 c)])else none
 | _=>none
def A4S(c:Int)(b:160<=c/\c<=1114111):kJ [.int .i64 c]=some (0,[.str (w9 c)]):=A9 b
def wV(a0:Nat)(b:Nat)(c:Tr):Tr:=.lt 3 (.bin .rem) [h3 (a0+1),jI 16]<|.lt 3 (.bin .rem) [h3 (a0+1),jI 16]<|aA [h3 (b+1),jI 1]<|.lt 9 (.sub) [.string ⟨⟨[48,49,50,51,52,53,54,55,56,57,65,66,67,68,69,70]⟩⟩,h3 b,h3 (b+2)]<|aC [h (b+3) 9,h a0 9]<|.lt 3 (.bin .quo) [h3 (a0+1),jI 16]<|aG [h3 (b+5),jI 0]<|.br (b+6) .no c
def wW(a0:Nat)(c b:Tr):Tr:=.lt 3 (.bin .rem) [h3 (a0+1),jI 16]<|.lt 3 (.bin .rem) [h3 (a0+1),jI 16]<|aA [h3 (a0+4),jI 1]<|.lt 9 (.sub) [.string ⟨⟨[48,49,50,51,52,53,54,55,56,57,65,66,67,68,69,70]⟩⟩,h3 (a0+3),h3 (a0+5)]<|aC [h (a0+6) 9,h a0 9]<|.lt 3 (.bin .quo) [h3 (a0+1),jI 16]<|aG [h3 (a0+8),jI 0]<|.br (a0+9) c b
def A7F:Tr:=aG [h3 0,jI 0]<|.br 1 (.lt 3 (.bin .rem) [h3 0,jI 16]<|.lt 3 (.bin .rem) [h3 0,jI 16]<|aA [h3 3,jI 1]<|.lt 9 (.sub) [.string ⟨⟨[48,49,50,51,52,53,54,55,56,57,65,66,67,68,69,70]⟩⟩,h3 2,h3 4]<|aC [h 5 9,.string ⟨⟨[]⟩⟩]<|.lt 3 (.bin .quo) [h3 0,jI 16]<|aG [h3 7,jI 0]<|.br 8 (wW 6 (wW 13 (wW 20 (wW 27 (wV 34 37 (aD [h 41 9]<|aL [h3 44,jI 4]<|.br 45 (.no) (L1 41))) (aD [h 34 9]<|aL [h3 37,jI 4]<|.br 38 (.no) (L1 34))) (aD [h 27 9]<|aL [h3 30,jI 4]<|.br 31 (.no) (L1 27))) (aD [h 20 9]<|aL [h3 23,jI 4]<|.br 24 (wV 20 25 (aD [h 29 9]<|aL [h3 32,jI 4]<|.br 33 (.no) (L1 29))) (.no))) (aD [h 13 9]<|aL [h3 16,jI 4]<|.br 17 (wV 13 18 (aD [h 22 9]<|aL [h3 25,jI 4]<|.br 26 (wV 22 27 (aD [h 31 9]<|aL [h3 34,jI 4]<|.br 35 (.no) (L1 31))) (.no))) (.no))) (.no)) (.no)
def B0x{G}(f:K3 G):L2 prog G 86 [.s 3] kJ [.s 9]:=by
 refine F2 (d:=60) A7F (cxg (B2b.2 f) .nil) f ⟨f86,_,func86,rfl⟩ C4 C4 ?_;intro us outs b;unfold kJ at b;split at b
 .skip;rename_i c;split at b
  .rename_i n;cases b;unfold A7F;refine w0 (.cons 0 _ (.nil)) ?_;repeat (first|refine A3U ?_|refine w1 (.bin .rem) (e:=AK _ _ _ A2) (k':=?_)|refine w4 (fun g=>?_) fun g=>?_|refine bW ?_|refine W5 ?_|refine A7_ ?_|refine w1 (.bin .quo) (e:=HO _ _ _ A2) (k':=?_)|(refine w8 ?_;first|omega|(simp only[B4,C8,J7]at g;omega))|refine wE ?_|refine w1 (.sub) (e:=B1D A2 A2 rfl) (k':=?_)|refine w1 (.bin .add) (e:=HP _ _ (by simp only[B4,C8,J7];omega)) (k':=?_)|refine gS ?_|refine aB ?_|(refine w7 [.str _] ?_;rotate_left))
   all_goals
    refine E1 (fun z=>[U.str z]) ?_;unfold w9;first
    | (rw[A9 A2];exact cc (E1 hU A2) (cc (E1 hU A2) (cc (E1 hU A2) (cc (E1 hU A2) (rfl)))))
    | (rw[A7 A2,A9 A2];exact cc (E1 hU A2) (cc (E1 hU A2) (cc (E1 hU A2) (cc (E1 hU A2) (cc (E1 hU A2) (rfl))))))
    | (rw[A7 A2,A7 A2];exact cc (E1 hU A2) (cc (E1 hU A2) (cc (E1 hU A2) (cc (E1 hU A2) (cc (E1 hU A2) (cc (E1 hU A2) (rfl)))))))
  .cases b
 .cases b
def HE(c:Int):(w9 c).length<=6:=by
 unfold w9
 (repeat' split)<;>exact A1 rfl
def A06:∀ n:Nat,(nmL.getD n []).length<=8:=by
 intro n;rcases G1 n 26 with h|h
 .have k:∀ n:Nat,n<26->(nmL.getD n []).length<=8:=F3;exact k n h
 .rw[B0,fR.2 h];decide
def QL(c:Int):(v7 c).length<=8:=by
 unfold v7;split
 .exact A06 _
 .split
  .decide
  .split
   .exact A1 rfl
   .have:=HE c;rw[B4];show 2+_<=8;omega
def cR(c:Int):Prop:=(32<=c/\c<=126)∨(160<=c/\c<=1114111)∨(1114113<=c/\c<=1114138)
instance(c:Int):Decidable (cR c):=by unfold cR;infer_instance
def A8t{c m:Int}(h:v8 c m):cR c:=by unfold v8 chP okU at h;unfold cR;omega
def A73(h:xP x)(h1:x.1=1):v8 x.2.1 x.2.2.1:=by
 unfold xP Y1 at h;rcases h with h|h|h|h
 .exact h.2.2.2.2.2.2
 .omega
 .omega
 .omega
def zQ(h:kyP x):cR x.2.1:=A8t (A73 h.2 h.1)
def lS(x:Xt):Int:=if ¬xP x then 430 else if x.1≠1 then 2 else 0
def zE(x:Xt):B2:=if lS x=0 then N7 x else[]
def B0J(h:(if xP x then(0:Int)else 430)≠0):[U.str [],U.int .i64 (if xP x then(0:Int)else 430)]=[U.str (zE x),U.int .i64 (lS x)]:=by
 have k:=A74 h;have e:lS x=430:=by unfold lS;rw[A9 k]
 unfold zE;rw[A7 k,e,A7 F3]
def B0I(h:¬(if xP x then(0:Int)else 430)≠0)(h1:x.1≠1):[U.str [],U.int .i64 2]=[U.str (zE x),U.int .i64 (lS x)]:=by
 have e:lS x=2:=by unfold lS;rw[A7 (fun k=>k (XH h)),A9 h1]
 unfold zE;rw[e,A7 F3]
def B0H(h:¬(if xP x then(0:Int)else 430)≠0)(h1:¬x.1≠1):[U.str (N7 x),U.int .i64 0]=[U.str (zE x),U.int .i64 (lS x)]:=by
 have e:lS x=0:=by unfold lS;rw[A7 (fun k=>k (XH h)),A7 h1]
 unfold zE;rw[e,A9 rfl]
def B0K(h:¬(if xP x then(0:Int)else 430)≠0)(h1:¬x.1≠1):cR x.2.1:=zQ ⟨D4.1 h1,XH h⟩
noncomputable def B2N:P0:=⟨_,fun b=>(.cons (B1h b) (.cons (LO b) .nil))⟩
def kB:List U->Option (Nat×List U)
 | [.int .i64 k,.int .i64 c,.int .i64 m,.int .i64 w,.int .i64 b,.int .i64 r,.int .i64 cl,.str t]=>if cR c then some (0,[.str (N7 (k,c,m,w,b,r,cl,t))])else none
 | _=>none
def xE(k:Int)(c:Int)(m:Int)(w:Int)(b:Int)(r:Int)(cl:Int)(t:B2)(d:cR c):kB [.int .i64 k,.int .i64 c,.int .i64 m,.int .i64 w,.int .i64 b,.int .i64 r,.int .i64 cl,.str t]=some (0,[.str (N7 (k,c,m,w,b,r,cl,t))]):=A9 d
def qH(a0:Nat)(b:Nat):Tr:=.fn FF [h3 1] 1<|.dt 11 (.mk 1) [h a0 9,h b 9]<|.fn aV [h (b+1) 11] 1<|.ret [h (b+2) 9]
def A1B(n:Nat):Tr:=qH 15 n
def A1A(n:Nat):Tr:=.fn aV [h 16 11] 1<|qH n (n+1)
def A6d:Tr:=p9 2 4 8 (.dt 11 (.mk 1) [.string ⟨⟨[]⟩⟩,.string ⟨⟨[67,45]⟩⟩]<|.fn aV [h 10 11] 1<|p9 2 2 12 (.dt 11 (.mk 1) [h 11 9,.string ⟨⟨[77,45]⟩⟩]<|.fn aV [h 14 11] 1<|p9 2 1 16 (.dt 11 (.mk 1) [h 15 9,.string ⟨⟨[83,45]⟩⟩]<|.fn aV [h 18 11] 1<|qH 19 20) (A1B 18)) (p9 2 1 14 (.dt 11 (.mk 1) [h 11 9,.string ⟨⟨[83,45]⟩⟩]<|A1A 17) (qH 11 16))) (p9 2 2 10 (.dt 11 (.mk 1) [.string ⟨⟨[]⟩⟩,.string ⟨⟨[77,45]⟩⟩]<|.fn aV [h 12 11] 1<|p9 2 1 14 (.dt 11 (.mk 1) [h 13 9,.string ⟨⟨[83,45]⟩⟩]<|A1A 17) (qH 13 16)) (p9 2 1 12 (.dt 11 (.mk 1) [.string ⟨⟨[]⟩⟩,.string ⟨⟨[83,45]⟩⟩]<|.fn aV [h 14 11] 1<|A1B 16) (.fn FF [h3 1] 1<|.dt 11 (.mk 1) [.string ⟨⟨[]⟩⟩,h 14 9]<|.fn aV [h 15 11] 1<|.ret [h 16 9])))
def SP{G}(n:K3 G):L2 prog G 48 [.a [3,3,3,3,3,3,3,9]] kB [.s 9]:=by
 refine F2 (d:=60) A6d (cxg (B2N.2 n) .nil) n ⟨f48,_,func48,rfl⟩ C4 C4 ?_;intro us outs f;unfold kB at f;split at f
 .skip;rename_i k c m w b r cl t;split at f
  .rename_i o;cases f;have q:=QL c;unfold A6d;refine w0 (.cons 7 _ (.cons 6 _ (.cons 5 _ (.cons 4 _ (.cons 3 _ (.cons 2 _ (.cons 1 _ (.cons 0 _ (.nil))))))))) ?_;repeat (first|refine w2 (.mk 1) (r:=rS) (e:=pM [_,_] rfl F3 rfl) (k':=?_)|refine w31 aV (e:=xJ _ ⟨WI (m:=1000000) rfl,by simp only[K6,L3,S9,L7,H1,M0,B4,C8,J7];omega⟩) (k':=?_)|refine w31 FF (e:=A4_ _ o) (k':=?_)|(refine w7 [.str _] ?_;rotate_left)|refine tH ?_|refine w4 (fun g=>?_) fun g=>?_|refine w1 (.bin .and) (e:=UB _) (k':=?_)|refine w1 (.bin .and) (e:=UA _) (k':=?_)|refine w1 (.bin .and) (e:=HQ _) (k':=?_))
   all_goals
    refine E1 (fun z=>[U.str z]) ?_;unfold N7;first|rw[A9 (show m / 4%2*4=0 by omega)]|rw[A7 (show ¬m / 4%2*4=0 by omega)]
    first|rw[A9 (show m / 2%2*2=0 by omega)]|rw[A7 (show ¬m / 2%2*2=0 by omega)]
    first|rw[A9 (show m / 1%2*1=0 by omega)]|rw[A7 (show ¬m / 1%2*1=0 by omega)]
    simp only[K6,L3,S9,L7,H1,M0]<;>first|done|rfl
  .cases f
 .cases f
noncomputable def B18:P0:=⟨_,fun b=>(.cons (B0x b) .nil)⟩
def vE:List U->Option (Nat×List U)
 | [.int .i64 k,.int .i64 c,.int .i64 m,.int .i64 w,.int .i64 b,.int .i64 r,.int .i64 cl,.str t]=>if cR c then some (0,[.str (N7 (k,c,m,w,b,r,cl,t))])else none
 | _=>none
def RP(k:Int)(c:Int)(m:Int)(w:Int)(b:Int)(r:Int)(cl:Int)(t:B2)(d:cR c):vE [.int .i64 k,.int .i64 c,.int .i64 m,.int .i64 w,.int .i64 b,.int .i64 r,.int .i64 cl,.str t]=some (0,[.str (N7 (k,c,m,w,b,r,cl,t))]):=A9 d
def A5y:Tr:=p9 2 4 8 (p9 2 2 10 (p9 2 1 12 (J4 1 14 1114113 (aS [h3 1,jI 1114113]<|.lt 9 (.sel) [h3 15,.string ⟨⟨[85,112]⟩⟩,.string ⟨⟨[68,111,119,110]⟩⟩,.string ⟨⟨[82,105,103,104,116]⟩⟩,.string ⟨⟨[76,101,102,116]⟩⟩,.string ⟨⟨[69,110,100]⟩⟩,.string ⟨⟨[72,111,109,101]⟩⟩,.string ⟨⟨[70,49]⟩⟩,.string ⟨⟨[70,50]⟩⟩,.string ⟨⟨[70,51]⟩⟩,.string ⟨⟨[70,52]⟩⟩,.string ⟨⟨[73,110,115,101,114,116]⟩⟩,.string ⟨⟨[68,101,108,101,116,101]⟩⟩,.string ⟨⟨[80,97,103,101,85,112]⟩⟩,.string ⟨⟨[80,97,103,101,68,111,119,110]⟩⟩,.string ⟨⟨[70,53]⟩⟩,.string ⟨⟨[70,54]⟩⟩,.string ⟨⟨[70,55]⟩⟩,.string ⟨⟨[70,56]⟩⟩,.string ⟨⟨[70,57]⟩⟩,.string ⟨⟨[70,49,48]⟩⟩,.string ⟨⟨[70,49,49]⟩⟩,.string ⟨⟨[70,49,50]⟩⟩,.string ⟨⟨[69,110,116,101,114]⟩⟩,.string ⟨⟨[84,97,98]⟩⟩,.string ⟨⟨[66,97,99,107]⟩⟩,.string ⟨⟨[69,115,99,97,112,101]⟩⟩]<|aC [.string ⟨⟨[67,45,77,45,83,45]⟩⟩,h 16 9]<|L1 17) (J1 1 15 32 (.ret [.string ⟨⟨[67,45,77,45,83,45,83,112,97,99,101]⟩⟩]) (Y8 1 16 127 (.lt 4 (.conv .u8) [h3 1]<|.lt 9 (.mks) [h 17 4]<|aC [.string ⟨⟨[67,45,77,45,83,45]⟩⟩,h 18 9]<|L1 19) (.fn kJ [h3 1] 1<|aC [.string ⟨⟨[67,45,77,45,83,45,85,43]⟩⟩,h 17 9]<|L1 18)))) (J4 1 14 1114113 (aS [h3 1,jI 1114113]<|.lt 9 (.sel) [h3 15,.string ⟨⟨[85,112]⟩⟩,.string ⟨⟨[68,111,119,110]⟩⟩,.string ⟨⟨[82,105,103,104,116]⟩⟩,.string ⟨⟨[76,101,102,116]⟩⟩,.string ⟨⟨[69,110,100]⟩⟩,.string ⟨⟨[72,111,109,101]⟩⟩,.string ⟨⟨[70,49]⟩⟩,.string ⟨⟨[70,50]⟩⟩,.string ⟨⟨[70,51]⟩⟩,.string ⟨⟨[70,52]⟩⟩,.string ⟨⟨[73,110,115,101,114,116]⟩⟩,.string ⟨⟨[68,101,108,101,116,101]⟩⟩,.string ⟨⟨[80,97,103,101,85,112]⟩⟩,.string ⟨⟨[80,97,103,101,68,111,119,110]⟩⟩,.string ⟨⟨[70,53]⟩⟩,.string ⟨⟨[70,54]⟩⟩,.string ⟨⟨[70,55]⟩⟩,.string ⟨⟨[70,56]⟩⟩,.string ⟨⟨[70,57]⟩⟩,.string ⟨⟨[70,49,48]⟩⟩,.string ⟨⟨[70,49,49]⟩⟩,.string ⟨⟨[70,49,50]⟩⟩,.string ⟨⟨[69,110,116,101,114]⟩⟩,.string ⟨⟨[84,97,98]⟩⟩,.string ⟨⟨[66,97,99,107]⟩⟩,.string ⟨⟨[69,115,99,97,112,101]⟩⟩]<|aC [.string ⟨⟨[67,45,77,45]⟩⟩,h 16 9]<|L1 17) (J1 1 15 32 (.ret [.string ⟨⟨[67,45,77,45,83,112,97,99,101]⟩⟩]) (Y8 1 16 127 (.lt 4 (.conv .u8) [h3 1]<|.lt 9 (.mks) [h 17 4]<|aC [.string ⟨⟨[67,45,77,45]⟩⟩,h 18 9]<|L1 19) (.fn kJ [h3 1] 1<|aC [.string ⟨⟨[67,45,77,45,85,43]⟩⟩,h 17 9]<|L1 18))))) (p9 2 1 12 (J4 1 14 1114113 (aS [h3 1,jI 1114113]<|.lt 9 (.sel) [h3 15,.string ⟨⟨[85,112]⟩⟩,.string ⟨⟨[68,111,119,110]⟩⟩,.string ⟨⟨[82,105,103,104,116]⟩⟩,.string ⟨⟨[76,101,102,116]⟩⟩,.string ⟨⟨[69,110,100]⟩⟩,.string ⟨⟨[72,111,109,101]⟩⟩,.string ⟨⟨[70,49]⟩⟩,.string ⟨⟨[70,50]⟩⟩,.string ⟨⟨[70,51]⟩⟩,.string ⟨⟨[70,52]⟩⟩,.string ⟨⟨[73,110,115,101,114,116]⟩⟩,.string ⟨⟨[68,101,108,101,116,101]⟩⟩,.string ⟨⟨[80,97,103,101,85,112]⟩⟩,.string ⟨⟨[80,97,103,101,68,111,119,110]⟩⟩,.string ⟨⟨[70,53]⟩⟩,.string ⟨⟨[70,54]⟩⟩,.string ⟨⟨[70,55]⟩⟩,.string ⟨⟨[70,56]⟩⟩,.string ⟨⟨[70,57]⟩⟩,.string ⟨⟨[70,49,48]⟩⟩,.string ⟨⟨[70,49,49]⟩⟩,.string ⟨⟨[70,49,50]⟩⟩,.string ⟨⟨[69,110,116,101,114]⟩⟩,.string ⟨⟨[84,97,98]⟩⟩,.string ⟨⟨[66,97,99,107]⟩⟩,.string ⟨⟨[69,115,99,97,112,101]⟩⟩]<|aC [.string ⟨⟨[67,45,83,45]⟩⟩,h 16 9]<|L1 17) (J1 1 15 32 (.ret [.string ⟨⟨[67,45,83,45,83,112,97,99,101]⟩⟩]) (Y8 1 16 127 (.lt 4 (.conv .u8) [h3 1]<|.lt 9 (.mks) [h 17 4]<|aC [.string ⟨⟨[67,45,83,45]⟩⟩,h 18 9]<|L1 19) (.fn kJ [h3 1] 1<|aC [.string ⟨⟨[67,45,83,45,85,43]⟩⟩,h 17 9]<|L1 18)))) (J4 1 14 1114113 (aS [h3 1,jI 1114113]<|.lt 9 (.sel) [h3 15,.string ⟨⟨[85,112]⟩⟩,.string ⟨⟨[68,111,119,110]⟩⟩,.string ⟨⟨[82,105,103,104,116]⟩⟩,.string ⟨⟨[76,101,102,116]⟩⟩,.string ⟨⟨[69,110,100]⟩⟩,.string ⟨⟨[72,111,109,101]⟩⟩,.string ⟨⟨[70,49]⟩⟩,.string ⟨⟨[70,50]⟩⟩,.string ⟨⟨[70,51]⟩⟩,.string ⟨⟨[70,52]⟩⟩,.string ⟨⟨[73,110,115,101,114,116]⟩⟩,.string ⟨⟨[68,101,108,101,116,101]⟩⟩,.string ⟨⟨[80,97,103,101,85,112]⟩⟩,.string ⟨⟨[80,97,103,101,68,111,119,110]⟩⟩,.string ⟨⟨[70,53]⟩⟩,.string ⟨⟨[70,54]⟩⟩,.string ⟨⟨[70,55]⟩⟩,.string ⟨⟨[70,56]⟩⟩,.string ⟨⟨[70,57]⟩⟩,.string ⟨⟨[70,49,48]⟩⟩,.string ⟨⟨[70,49,49]⟩⟩,.string ⟨⟨[70,49,50]⟩⟩,.string ⟨⟨[69,110,116,101,114]⟩⟩,.string ⟨⟨[84,97,98]⟩⟩,.string ⟨⟨[66,97,99,107]⟩⟩,.string ⟨⟨[69,115,99,97,112,101]⟩⟩]<|aC [.string ⟨⟨[67,45]⟩⟩,h 16 9]<|L1 17) (J1 1 15 32 (.ret [.string ⟨⟨[67,45,83,112,97,99,101]⟩⟩]) (Y8 1 16 127 (.lt 4 (.conv .u8) [h3 1]<|.lt 9 (.mks) [h 17 4]<|aC [.string ⟨⟨[67,45]⟩⟩,h 18 9]<|L1 19) (.fn kJ [h3 1] 1<|aC [.string ⟨⟨[67,45,85,43]⟩⟩,h 17 9]<|L1 18)))))) (p9 2 2 10 (p9 2 1 12 (J4 1 14 1114113 (aS [h3 1,jI 1114113]<|.lt 9 (.sel) [h3 15,.string ⟨⟨[85,112]⟩⟩,.string ⟨⟨[68,111,119,110]⟩⟩,.string ⟨⟨[82,105,103,104,116]⟩⟩,.string ⟨⟨[76,101,102,116]⟩⟩,.string ⟨⟨[69,110,100]⟩⟩,.string ⟨⟨[72,111,109,101]⟩⟩,.string ⟨⟨[70,49]⟩⟩,.string ⟨⟨[70,50]⟩⟩,.string ⟨⟨[70,51]⟩⟩,.string ⟨⟨[70,52]⟩⟩,.string ⟨⟨[73,110,115,101,114,116]⟩⟩,.string ⟨⟨[68,101,108,101,116,101]⟩⟩,.string ⟨⟨[80,97,103,101,85,112]⟩⟩,.string ⟨⟨[80,97,103,101,68,111,119,110]⟩⟩,.string ⟨⟨[70,53]⟩⟩,.string ⟨⟨[70,54]⟩⟩,.string ⟨⟨[70,55]⟩⟩,.string ⟨⟨[70,56]⟩⟩,.string ⟨⟨[70,57]⟩⟩,.string ⟨⟨[70,49,48]⟩⟩,.string ⟨⟨[70,49,49]⟩⟩,.string ⟨⟨[70,49,50]⟩⟩,.string ⟨⟨[69,110,116,101,114]⟩⟩,.string ⟨⟨[84,97,98]⟩⟩,.string ⟨⟨[66,97,99,107]⟩⟩,.string ⟨⟨[69,115,99,97,112,101]⟩⟩]<|aC [.string ⟨⟨[77,45,83,45]⟩⟩,h 16 9]<|L1 17) (J1 1 15 32 (.ret [.string ⟨⟨[77,45,83,45,83,112,97,99,101]⟩⟩]) (Y8 1 16 127 (.lt 4 (.conv .u8) [h3 1]<|.lt 9 (.mks) [h 17 4]<|aC [.string ⟨⟨[77,45,83,45]⟩⟩,h 18 9]<|L1 19) (.fn kJ [h3 1] 1<|aC [.string ⟨⟨[77,45,83,45,85,43]⟩⟩,h 17 9]<|L1 18)))) (J4 1 14 1114113 (aS [h3 1,jI 1114113]<|.lt 9 (.sel) [h3 15,.string ⟨⟨[85,112]⟩⟩,.string ⟨⟨[68,111,119,110]⟩⟩,.string ⟨⟨[82,105,103,104,116]⟩⟩,.string ⟨⟨[76,101,102,116]⟩⟩,.string ⟨⟨[69,110,100]⟩⟩,.string ⟨⟨[72,111,109,101]⟩⟩,.string ⟨⟨[70,49]⟩⟩,.string ⟨⟨[70,50]⟩⟩,.string ⟨⟨[70,51]⟩⟩,.string ⟨⟨[70,52]⟩⟩,.string ⟨⟨[73,110,115,101,114,116]⟩⟩,.string ⟨⟨[68,101,108,101,116,101]⟩⟩,.string ⟨⟨[80,97,103,101,85,112]⟩⟩,.string ⟨⟨[80,97,103,101,68,111,119,110]⟩⟩,.string ⟨⟨[70,53]⟩⟩,.string ⟨⟨[70,54]⟩⟩,.string ⟨⟨[70,55]⟩⟩,.string ⟨⟨[70,56]⟩⟩,.string ⟨⟨[70,57]⟩⟩,.string ⟨⟨[70,49,48]⟩⟩,.string ⟨⟨[70,49,49]⟩⟩,.string ⟨⟨[70,49,50]⟩⟩,.string ⟨⟨[69,110,116,101,114]⟩⟩,.string ⟨⟨[84,97,98]⟩⟩,.string ⟨⟨[66,97,99,107]⟩⟩,.string ⟨⟨[69,115,99,97,112,101]⟩⟩]<|aC [.string ⟨⟨[77,45]⟩⟩,h 16 9]<|L1 17) (J1 1 15 32 (.ret [.string ⟨⟨[77,45,83,112,97,99,101]⟩⟩]) (Y8 1 16 127 (.lt 4 (.conv .u8) [h3 1]<|.lt 9 (.mks) [h 17 4]<|aC [.string ⟨⟨[77,45]⟩⟩,h 18 9]<|L1 19) (.fn kJ [h3 1] 1<|aC [.string ⟨⟨[77,45,85,43]⟩⟩,h 17 9]<|L1 18))))) (p9 2 1 12 (J4 1 14 1114113 (aS [h3 1,jI 1114113]<|.lt 9 (.sel) [h3 15,.string ⟨⟨[85,112]⟩⟩,.string ⟨⟨[68,111,119,110]⟩⟩,.string ⟨⟨[82,105,103,104,116]⟩⟩,.string ⟨⟨[76,101,102,116]⟩⟩,.string ⟨⟨[69,110,100]⟩⟩,.string ⟨⟨[72,111,109,101]⟩⟩,.string ⟨⟨[70,49]⟩⟩,.string ⟨⟨[70,50]⟩⟩,.string ⟨⟨[70,51]⟩⟩,.string ⟨⟨[70,52]⟩⟩,.string ⟨⟨[73,110,115,101,114,116]⟩⟩,.string ⟨⟨[68,101,108,101,116,101]⟩⟩,.string ⟨⟨[80,97,103,101,85,112]⟩⟩,.string ⟨⟨[80,97,103,101,68,111,119,110]⟩⟩,.string ⟨⟨[70,53]⟩⟩,.string ⟨⟨[70,54]⟩⟩,.string ⟨⟨[70,55]⟩⟩,.string ⟨⟨[70,56]⟩⟩,.string ⟨⟨[70,57]⟩⟩,.string ⟨⟨[70,49,48]⟩⟩,.string ⟨⟨[70,49,49]⟩⟩,.string ⟨⟨[70,49,50]⟩⟩,.string ⟨⟨[69,110,116,101,114]⟩⟩,.string ⟨⟨[84,97,98]⟩⟩,.string ⟨⟨[66,97,99,107]⟩⟩,.string ⟨⟨[69,115,99,97,112,101]⟩⟩]<|aC [.string ⟨⟨[83,45]⟩⟩,h 16 9]<|L1 17) (J1 1 15 32 (.ret [.string ⟨⟨[83,45,83,112,97,99,101]⟩⟩]) (Y8 1 16 127 (.lt 4 (.conv .u8) [h3 1]<|.lt 9 (.mks) [h 17 4]<|aC [.string ⟨⟨[83,45]⟩⟩,h 18 9]<|L1 19) (.fn kJ [h3 1] 1<|aC [.string ⟨⟨[83,45,85,43]⟩⟩,h 17 9]<|L1 18)))) (J4 1 14 1114113 (aS [h3 1,jI 1114113]<|.lt 9 (.sel) [h3 15,.string ⟨⟨[85,112]⟩⟩,.string ⟨⟨[68,111,119,110]⟩⟩,.string ⟨⟨[82,105,103,104,116]⟩⟩,.string ⟨⟨[76,101,102,116]⟩⟩,.string ⟨⟨[69,110,100]⟩⟩,.string ⟨⟨[72,111,109,101]⟩⟩,.string ⟨⟨[70,49]⟩⟩,.string ⟨⟨[70,50]⟩⟩,.string ⟨⟨[70,51]⟩⟩,.string ⟨⟨[70,52]⟩⟩,.string ⟨⟨[73,110,115,101,114,116]⟩⟩,.string ⟨⟨[68,101,108,101,116,101]⟩⟩,.string ⟨⟨[80,97,103,101,85,112]⟩⟩,.string ⟨⟨[80,97,103,101,68,111,119,110]⟩⟩,.string ⟨⟨[70,53]⟩⟩,.string ⟨⟨[70,54]⟩⟩,.string ⟨⟨[70,55]⟩⟩,.string ⟨⟨[70,56]⟩⟩,.string ⟨⟨[70,57]⟩⟩,.string ⟨⟨[70,49,48]⟩⟩,.string ⟨⟨[70,49,49]⟩⟩,.string ⟨⟨[70,49,50]⟩⟩,.string ⟨⟨[69,110,116,101,114]⟩⟩,.string ⟨⟨[84,97,98]⟩⟩,.string ⟨⟨[66,97,99,107]⟩⟩,.string ⟨⟨[69,115,99,97,112,101]⟩⟩]<|aC [.string ⟨⟨[]⟩⟩,h 16 9]<|L1 17) (J1 1 15 32 (.ret [.string ⟨⟨[83,112,97,99,101]⟩⟩]) (Y8 1 16 127 (.lt 4 (.conv .u8) [h3 1]<|.lt 9 (.mks) [h 17 4]<|aC [.string ⟨⟨[]⟩⟩,h 18 9]<|L1 19) (.fn kJ [h3 1] 1<|aC [.string ⟨⟨[85,43]⟩⟩,h 17 9]<|L1 18))))))
def A5z{G}(n:K3 G):L2 prog G 49 [.a [3,3,3,3,3,3,3,9]] vE [.s 9]:=by
 refine F2 (d:=60) A5y (cxg (B18.2 n) .nil) n ⟨f49,_,func49,rfl⟩ C4 C4 ?_;intro us outs f;unfold vE at f;split at f
 .skip;rename_i k c m w b r cl t;split at f
  .rename_i o;cases f;have A:=QL c;unfold cR at o;have q:=HE c;have h:=A06 (c-1114113).toNat;unfold A5y;refine w0 (.cons 7 _ (.cons 6 _ (.cons 5 _ (.cons 4 _ (.cons 3 _ (.cons 2 _ (.cons 1 _ (.cons 0 _ (.nil))))))))) ?_;repeat (first|(refine w7 [.str _] ?_;rotate_left)|refine w4 (fun g=>?_) fun g=>?_|refine w1 (.bin .add) (e:=HP _ _ (by simp only[B4,C8,J7,iB,E9];omega)) (k':=?_)|refine UZ ?_|refine CP ?_|refine xZ ?_|refine oU ?_|refine kU ?_|refine w1 (.sel) (e:=TW nmL A2 (by show _<((26:Nat):Int);omega)) (k':=?_)|refine fO ?_|refine aB ?_|refine w1 (.mks) (e:=pL [_] (by simp only[B6,K4,or_false,forall_eq_or_imp,forall_eq];omega)) (k':=?_)|refine w31 kJ (e:=A4S _ A2) (k':=?_)|refine tH ?_|refine w1 (.bin .and) (e:=UB _) (k':=?_)|refine w1 (.bin .and) (e:=UA _) (k':=?_)|refine w1 (.bin .and) (e:=HQ _) (k':=?_))
   all_goals
    refine E1 (fun z=>[U.str z]) ?_;unfold N7;first|rw[A9 (show m / 4%2*4=0 by omega)]|rw[A7 (show ¬m / 4%2*4=0 by omega)]
    first|rw[A9 (show m / 2%2*2=0 by omega)]|rw[A7 (show ¬m / 2%2*2=0 by omega)]
    first|rw[A9 (show m / 1%2*1=0 by omega)]|rw[A7 (show ¬m / 1%2*1=0 by omega)]
    show _=_++(_++(_++v7 c));first
    | (rw[A42 A2];first|done|rfl)
    | (rw[A43 A2];first|done|rfl)
    | (rw[A44 A2 A2 A2];first|done|rfl)
    | (rw[NG A2 A2 A2];first|done|rfl)
  .cases f
 .cases f
noncomputable def B2o:P0:=⟨_,fun b=>(.cons (A1X b) (.cons (SP b) .nil))⟩
def A7y:List U->Option (Nat×List U)
 | [.int .i64 k,.int .i64 c,.int .i64 m,.int .i64 w,.int .i64 b,.int .i64 r,.int .i64 cl,.str t]=>if -9223372036854775808<=m/\m<=9223372036854775807/\(t.length:Int)<=140737488351232 then some (0,[.str (zE (k,c,m,w,b,r,cl,t)),.int .i64 (lS (k,c,m,w,b,r,cl,t))])else none
 | _=>none
def A7x:Tr:=.fn rZ [h3 0,h3 1,h3 2,h3 3,h3 4,h3 5,h3 6,h 7 9] 1<|bV 8 9 0 (.ret [.string ⟨⟨[]⟩⟩,h3 8]) (bV 0 10 1 (.ret [.string ⟨⟨[]⟩⟩,jI 2]) (.fn kB [h3 0,h3 1,h3 2,h3 3,h3 4,h3 5,h3 6,h 7 9] 1<|.ret [h 11 9,jI 0]))
def B21{G}(n:K3 G):L2 prog G 18 [.a [3,3,3,3,3,3,3,9]] A7y [.s 9,.s 3]:=by
 refine F2 (d:=60) A7x (cxg (B2o.2 n) .nil) n ⟨f18,_,func18,rfl⟩ C4 C4 ?_;intro us outs f;unfold A7y at f;split at f
 .skip;rename_i k c m w b r cl t;split at f
  .rename_i o;cases f;unfold A7x;refine w0 (.cons 7 _ (.cons 6 _ (.cons 5 _ (.cons 4 _ (.cons 3 _ (.cons 2 _ (.cons 1 _ (.cons 0 _ (.nil))))))))) ?_;repeat (first|(refine w7 [.str _,.int .i64 _] ?_;rotate_left)|refine tH ?_|refine w4 (fun g=>?_) fun g=>?_|refine w31 rZ (e:=GX _ _ _ _ _ _ _ _ o) (k':=?_)|refine w31 kB (e:=xE _ _ _ _ _ _ _ _ (B0K (x:=(k,c,m,w,b,r,cl,t)) ‹_› ‹_›)) (k':=?_))
   all_goals
    first
    | exact B0J (x:=(k,c,m,w,b,r,cl,t)) ‹_›
    | exact B0I (x:=(k,c,m,w,b,r,cl,t)) ‹_› ‹_›
    | exact B0H (x:=(k,c,m,w,b,r,cl,t)) ‹_› ‹_›
  .cases f
 .cases f
def niF(s:B2)(a:B2):Bool:=decide (a=s)
def hD(b:UInt8):Int:=if 48<=b.toNat/\b.toNat<=57 then b.toNat-48 else if 65<=b.toNat/\b.toNat<=70 then b.toNat-55 else -1
def hR:B2->Int->Option Int
 | [],n=>some n
 | b::l,n=>if hD b<0 then none else hR l (16*n+hD b)
def hE(s:B2)(i n:Int):Option Unit:=match hR (s.drop i.toNat) n with
 | some _=>none
 | none=>some ()
def hV(s:B2)(i n:Int):Int:=(hR (s.drop i.toNat) n).getD 0
def ER(s:B2):Int:=match I9 (niF s) nmL 0 with
 | some j=>1114113+j
 | none=>if s=[83,112,97,99,101]then 32 else if s.length=1 then((s.getD 0 0).toNat:Int)else if s.length<6∨8<s.length∨s.take 2≠[85,43]then -1 else(hR (s.drop 2) 0).getD (-1)
def B34{j:Int}(h:I9 (niF s) nmL 0=some j):ER s=1114113+j:=by unfold ER;rw[h]
def B1T(h:I9 (niF s) nmL 0=none):ER s=if s=[83,112,97,99,101]then 32 else if s.length=1 then((s.getD 0 0).toNat:Int)else if s.length<6∨8<s.length∨s.take 2≠[85,43]then -1 else(hR (s.drop 2) 0).getD (-1):=by unfold ER;rw[h]
def B0M(h:a=s):niF s a=true:=J9 h
def A08(h:¬a=s):niF s a=false:=E5 h
def stp(p:B2)(v:Int)(a:B2×Int):B2×Int:=if 2<a.1.length/\a.1.take 2=p then(a.1.drop 2,a.2+v)else a
def kN(s:B2):Xt:=(1,ER (stp [83,45] 1 (stp [77,45] 2 (stp [67,45] 4 (s,0)))).1,(stp [83,45] 1 (stp [77,45] 2 (stp [67,45] 4 (s,0)))).2,0,0,0,0,[])
def X0:Xt:=(0,0,0,0,0,0,0,[])
def zT(s:B2):Xt:=if kyP (kN s)/\N7 (kN s)=s then kN s else X0
def CG(s:B2):Int:=if kyP (kN s)/\N7 (kN s)=s then 0 else 6
def l9{c a2 a3 a4 a5 b d e f:Int}(h:x=(c,a2,a3,a4,a5,b,d,a8))(k:f=e):[U.int .i64 c,.int .i64 a2,.int .i64 a3,.int .i64 a4,.int .i64 a5,.int .i64 b,.int .i64 d,.str a8,.int .i64 e]=[U.int .i64 x.1,.int .i64 x.2.1,.int .i64 x.2.2.1,.int .i64 x.2.2.2.1,.int .i64 x.2.2.2.2.1,.int .i64 x.2.2.2.2.2.1,.int .i64 x.2.2.2.2.2.2.1,.str x.2.2.2.2.2.2.2,.int .i64 f]:=by subst h k;rfl
noncomputable def B2X:P0:=⟨_,fun b=>(.cons (A05 b) .nil)⟩
def sC:List U->Option (Nat×List U)
 | [u_l,.str v,.int .i64 n,.int .i64 i]=>(L8 rS u_l).bind fun l=>if n=((el l).length:Int)/\0<=i/\i<=n/\n<=140737488351232 then W4 (I9 (niF v) ((el l).drop i.toNat) i) [] (fun j=>[.int .i64 j])else none
 | _=>none
def sB(l:(Option (List B2)))(v:B2)(n:Int)(i:Int)(b:n=((el l).length:Int)/\0<=i/\i<=n/\n<=140737488351232):sC [D8 rS l,.str v,.int .i64 n,.int .i64 i]=W4 (I9 (niF v) ((el l).drop i.toNat) i) [] (fun j=>[.int .i64 j]):=by
 simp only[sC,G5,D9];exact A9 b
def A1j:R7:=⟨[(0,dat 17 0 11),(1,h 1 9),(7,h 2 3),(8,h 3 3)],[(17,.frz)],4,[⟨.exit 0,[],[],0⟩,⟨.ret,[(4,h 0 3)],[],1⟩]⟩
noncomputable def A1k:Code:=(f88.body).getD .skip
noncomputable def A64:Code:=match G7 [true,false,true,false] A1k with|some (.loop x)=>x|_=>.skip
def A1i:f88.body=some A1k:=rfl
def A1f:G7 [true,false,true,false] A1k=some (.loop A64):=C4
def A65:Tr:=Q8 3 2 4 (dV 0 3 5 (.lt 9 (.get 1 0) [h 0 11,h3 3]<|aE [h 1 9,h 6 9]<|.br 7 (.ret [jI 1,h3 3]) (aA [h3 3,jI 1]<|.ret [jI (-1),h 0 11,h 1 9,h3 2,h3 8]))) (I4 0)
def A1h:List U->Nat
 | [u_l,.str v,.int .i64 n,.int .i64 i]=>(match L8 rS u_l with|some l=>(n-i).toNat|none=>0)
 | _=>0
def A1g(l:(Option (List B2)))(v:B2)(n:Int)(i:Int):A1h [D8 rS l,.str v,.int .i64 n,.int .i64 i]=(n-i).toNat:=by
 simp only[A1h,G5]
def A66{G}(q:K3 G):∀ (E:Nat->U) (base:Nat),@Q5 ⟨E,G⟩ prog base gl f88.ntmps A64 (N0 prog gl n0 18 A1j sC):=by
 refine S3 (dep:=60) (f:=88) (n0:=n0) (nB:=18) (H0:=H0) A1h A65 (cxg (B2X.2 q) .nil) q func88 A1i A1f C4 C4 C4 ?_;intro us d outs c;have t:=c;unfold sC at c;split at c
 .skip;rename_i w v n i;have r:=B3.1 c;clear c;obtain⟨l,b,c⟩:=r;replace b:=I2 b;subst b;split at c
  .rename_i o;clear c t;refine⟨rfl,?_⟩;unfold A65;refine w0 (.cons 3 _ (.cons 2 _ (.cons 1 _ (.cons 0 _ (.nil))))) ?_;repeat (first|refine w4 (fun g=>?_) fun g=>?_|refine bW ?_|refine W5 ?_|refine aB ?_|refine aF ?_|refine w1 (.get 1 0) (u:=.str _) (e:=C9 rfl A2 A2 rfl) (k':=?_)|refine NX ?_|(refine w7 [.int .i64 _,.int .i64 _] ?_;rotate_left)|(refine w7 [.int .i64 _,D8 rS _,.str _,.int .i64 _,.int .i64 _] ?_;rotate_left)|(refine w8 ?_;first|omega)|(refine w7 [.int .i64 _] ?_;rotate_left))
   all_goals first
    | refine N3 ?_ ?_
      .rw[sB l v n (i+1) ⟨o.1,A2,A2,o.2.2.2⟩,sB l v n i o,Y2 (i:=i) o.2.1 A2 (A08 (fun h=>(by assumption:¬_=_) (by first|exact h|exact h.symm)))]
      .rw[A1g,A1g];omega
    | refine I3 (d:=0) ?_
      rw[sB l v n i o,e9 A2];rfl
    | refine I3 (d:=1) ?_
      rw[sB l v n i o,d9 (i:=i) o.2.1 A2 (B0M (by first|assumption|(symm;assumption)))];rfl
  .cases c
 .cases c
noncomputable def A3G:List LpE:=[(88,([true,false,true,false],N0 prog gl n0 18 A1j sC))]
def wA{G}(b:K3 G):W9 prog G gl A3G:=(.cons func88 A1i A1f (A66 b) .nil)
def zH(c:Int):Int:=if c / 32%2=1 then c else c+32
def A8j{c:Int}(h0:0<=c)(h1:c<=255):IntKind.u8.wrap ((BitVec.ofInt IntKind.u8.bits c ||| BitVec.ofInt IntKind.u8.bits 32).toNat)=zH c:=by
 obtain⟨n,rfl⟩:∃ n:Nat,c=n:=⟨c.toNat,A2⟩;have b:n<256:=A2;have:((List.range 256).all fun n=>decide (IntKind.u8.wrap ((BitVec.ofInt IntKind.u8.bits (n:Int) ||| BitVec.ofInt IntKind.u8.bits 32).toNat)=zH n))=true:=C4;exact I5 (D7.1 this n (X4.2 b))
noncomputable def B2O:P0:=⟨_,fun b=>.nil⟩
def zG:List U->Option (Nat×List U)
 | [.int .u8 c]=>if 0<=c/\c<=255 then some (0,[.int .u8 (zH c)])else none
 | _=>none
def A4C(c:Int)(b:0<=c/\c<=255):zG [.int .u8 c]=some (0,[.int .u8 (zH c)]):=A9 b
def A6f:Tr:=.lt 4 (.bin .or) [h 0 4,.int .u8 (32)]<|.ret [h 1 4]
def A6g{G}(b:K3 G):L2 prog G 126 [.s 4] zG [.s 4]:=by
 refine F2 (d:=60) A6f (cxg (B2O.2 b) (wA b)) b ⟨f126,_,func126,rfl⟩ C4 C4 ?_;intro us outs f;unfold zG at f;split at f
 .skip;rename_i c;split at f
  .rename_i n;cases f;unfold A6f;refine w0 (.cons 0 _ (.nil)) ?_;repeat (first|refine w1 (.bin .or) (e:=QB 8 256 128 F3 F3 A2 A2 A2 A2 A2) (k':=?_)|refine w1 (.bin .or) (e:=A2D 8 256 128 F3 F3 A2 A2 A2 A2 A2) (k':=?_)|refine w1 (.bin .or) (e:=QB 16 65536 128 F3 F3 A2 A2 A2 A2 A2) (k':=?_)|refine w1 (.bin .or) (e:=A2D 16 65536 128 F3 F3 A2 A2 A2 A2 A2) (k':=?_)|refine w1 (.bin .or) (e:=TX _ _ _) (k':=?_)|(refine w7 [.int .u8 _] ?_;rotate_left))
   all_goals
    exact E1 (fun z=>[U.int .u8 z]) (A8j n.1 n.2)
  .cases f
 .cases f
def ES:List U->Option (Nat×List U)
 | [.str s]=>if(s.length:Int)<=140737488351232 then some (0,[.str (s)])else none
 | _=>none
def A4z(s:B2)(b:(s.length:Int)<=140737488351232):ES [.str s]=some (0,[.str (s)]):=A9 b
def A7i{G}(d:K3 G):L2 prog G 143 [.s 9] ES [.s 9]:=by
 intro us outs w vs R c b e hR;unfold ES at b;split at b
 .skip;rename_i s;split at b
  .rename_i f;cases b;have hv:=V4 (vs2:=[.string ⟨⟨s⟩⟩]) c rfl;subst hv;refine gI (vr:=[.string ⟨⟨s⟩⟩]) func143 rfl C4 rfl ?_;exact Tryz.stringslite_Clone ⟨⟨s⟩⟩ w (by show s.length<=_;omega)
  .cases b
 .cases b
def hv(c:Int):Int:=if 48<=c/\c<=57 then c-48 else if 65<=c/\c<=70 then c-55 else if 97<=c/\c<=102 then c-87 else -1
def pu:List Int->Int->Option Int
 | [],n=>some n
 | c::l,n=>if hv c<0 then none else pu l (n*16+hv c)
def puE(l:List Int)(n:Int):Option Int:=match pu l n with
 | none=>some 0
 | some _=>none
def puV(l:List Int)(n:Int):Int:=(pu l n).getD 0
def A8k{c:Int}(h0:0<=c)(h1:c<=255):0<=zH c/\zH c<=255:=by unfold zH;split<;>omega
def A8y{c:Int}(h0:0<=c)(h1:c<=255):hv c=if 48<=c/\c<=57 then c-48 else if 97<=zH c/\zH c<=102 then zH c-87 else -1:=by
 unfold hv zH;repeat' split;all_goals omega
def A4U(h:∀ x ∈ l,0<=x/\x<=255)(i:Nat):0<=l.getD i default/\l.getD i default<=255:=by
 rw[B0];cases hx:l[i]? with
 | none=>decide
 | some x=>exact h x (D1 hx)
def A98{n:Int}(h0:0<=i)(h1:i<(l.length:Int)):pu (l.drop i.toNat) n=if hv (l.getD i.toNat default)<0 then none else pu (l.drop (i+1).toNat) (n*16+hv (l.getD i.toNat default)):=by
 rw[R6 l h0 h1];rfl
def A3s{n d:Int}(h0:0<=i)(h1:i<(l.length:Int))(b:hv (l.getD i.toNat default)=d)(c:0<=d):puE (l.drop i.toNat) n=puE (l.drop (i+1).toNat) (n*16+d)/\puV (l.drop i.toNat) n=puV (l.drop (i+1).toNat) (n*16+d):=by
 unfold puE puV;rw[A98 h0 h1,b,A7 A2];exact⟨rfl,rfl⟩
def A8V{n:Int}(h0:0<=i)(h1:i<(l.length:Int))(b:hv (l.getD i.toNat default)<0):puE (l.drop i.toNat) n=some 0:=by
 unfold puE;rw[A98 h0 h1,A9 b]
def A8W{n:Int}(h1:(l.length:Int)<=i):puE (l.drop i.toNat) n=none/\puV (l.drop i.toNat) n=n:=by
 unfold puE puV;rw[show l.drop i.toNat=[]from S6 A2];exact⟨rfl,rfl⟩
def A8Z(h0:0<=i)(h1:i<6):(16:Int) ^ (i+1).toNat=16*16 ^ i.toNat/\(16:Int) ^ i.toNat<=1048576:=by
 obtain⟨n,rfl⟩:∃ n:Nat,i=n:=⟨i.toNat,A2⟩;have:n=0∨n=1∨n=2∨n=3∨n=4∨n=5:=A2;rcases this with rfl|rfl|rfl|rfl|rfl|rfl<;>decide
noncomputable def B2G:P0:=⟨_,fun b=>(.cons (A6g b) (.cons (A7i b) .nil))⟩
def oO:List U->Option (Nat×List U)
 | [.str z0,.int .u64 n,u_b,.int .i64 k,.int .i64 i]=>(L8 rB u_b).bind fun b=>if k=((el b).length:Int)/\0<=i/\i<=k/\k<=6/\(∀ x ∈ el b,0<=x/\x<=255)/\0<=n/\n<16 ^ i.toNat then W4 (puE ((el b).drop i.toNat) n) [.int .u64 (puV ((el b).drop i.toNat) n),.str z0] (fun j=>[.int .u64 j])else none
 | _=>none
def rN(z0:B2)(n:Int)(b:tF)(k:Int)(i:Int)(c:k=((el b).length:Int)/\0<=i/\i<=k/\k<=6/\(∀ x ∈ el b,0<=x/\x<=255)/\0<=n/\n<16 ^ i.toNat):oO [.str z0,.int .u64 n,D8 rB b,.int .i64 k,.int .i64 i]=W4 (puE ((el b).drop i.toNat) n) [.int .u64 (puV ((el b).drop i.toNat) n),.str z0] (fun j=>[.int .u64 j]):=by
 simp only[oO,G5,D9];exact A9 c
def A6K:R7:=⟨[(1,.int .i64 (16)),(8,.bool false),(9,h 0 9),(10,.int .u64 (1152921504606846976)),(11,.int .u64 (4294967295)),(12,.bool false),(13,h 1 7),(99,own 19 2 11),(100,h 3 3),(101,h 4 3)],[(19,.sq 2 11 5 20),(20,.frz)],5,[⟨.exit 3,[(13,h 0 7),(12,.bool false),(9,h 1 9)],[],2⟩,⟨.ret,[(6,h 0 7),(7,.iface 174 (.int .i64 (2)))],[],1⟩]⟩
noncomputable def A0f:Code:=(f109.body).getD .skip
noncomputable def A6G:Code:=match G7 [true,true,true,true,true,true,true,true,true,true,true,false,true,false] A0f with|some (.loop x)=>x|_=>.skip
def A6J:f109.body=some A0f:=rfl
def A6I:G7 [true,true,true,true,true,true,true,true,true,true,true,false,true,false] A0f=some (.loop A6G):=C4
def A0c(n:Nat):Tr:=.fn zG [h 7 4] 1<|aQ [.int .u8 (97),h n 4]<|.br (n+1) (.fn zG [h 7 4] 1<|aQ [h (n+2) 4,.int .u8 (122)]<|.br (n+3) (.fn zG [h 7 4] 1<|.lt 4 (.bin .sub) [h (n+4) 4,.int .u8 (97)]<|.lt 4 (.bin .add) [h (n+5) 4,.int .u8 (10)]<|aH [h (n+6) 4,.int .u8 (16)]<|.br (n+7) (.ret [jI 1,.int .u64 (0)]) (aH [h 1 7,.int .u64 (1152921504606846976)]<|.br (n+8) (.no) (.lt 7 (.bin .mul) [h 1 7,.int .u64 (16)]<|.lt 7 (.conv .u64) [h (n+6) 4]<|.lt 7 (.bin .add) [h (n+9) 7,h (n+10) 7]<|aL [h (n+11) 7,h (n+9) 7]<|.br (n+12) (.no) (aG [h (n+11) 7,.int .u64 (4294967295)]<|.br (n+13) (.no) (aA [h3 4,jI 1]<|.ret [jI (-1),h 0 9,h (n+11) 7,h 2 11,h3 3,h3 (n+14)]))))) (.ret [jI 1,.int .u64 (0)])) (.ret [jI 1,.int .u64 (0)])
def A0b(n:Nat):Tr:=aQ [.int .u8 (48),h 7 4]<|.br n (aQ [h 7 4,.int .u8 (57)]<|.br (n+1) (.lt 4 (.bin .sub) [h 7 4,.int .u8 (48)]<|aH [h (n+2) 4,.int .u8 (16)]<|.br (n+3) (.ret [jI 1,.int .u64 (0)]) (aH [h 1 7,.int .u64 (1152921504606846976)]<|.br (n+4) (.no) (.lt 7 (.bin .mul) [h 1 7,.int .u64 (16)]<|.lt 7 (.conv .u64) [h (n+2) 4]<|.lt 7 (.bin .add) [h (n+5) 7,h (n+6) 7]<|aL [h (n+7) 7,h (n+5) 7]<|.br (n+8) (.no) (aG [h (n+7) 7,.int .u64 (4294967295)]<|.br (n+9) (.no) (aA [h3 4,jI 1]<|.ret [jI (-1),h 0 9,h (n+7) 7,h 2 11,h3 3,h3 (n+10)]))))) (A0c (n+2))) (A0c (n+1))
def A6H:Tr:=Q8 4 3 5 (dV 2 4 6 (.lt 4 (.get 1 0) [h 2 11,h3 4]<|aE [h 7 4,.int .u8 (95)]<|.br 8 (A0b 9) (A0b 9))) (.ret [jI 0,h 1 7,h 0 9])
def A0e:List U->Nat
 | [.str z0,.int .u64 n,u_b,.int .i64 k,.int .i64 i]=>(match L8 rB u_b with|some b=>(k-i).toNat|none=>0)
 | _=>0
def A0d(z0:B2)(n:Int)(b:tF)(k:Int)(i:Int):A0e [.str z0,.int .u64 n,D8 rB b,.int .i64 k,.int .i64 i]=(k-i).toNat:=by
 simp only[A0e,G5]
def A97{G}(t:K3 G):∀ (E:Nat->U) (base:Nat),@Q5 ⟨E,G⟩ prog base gl f109.ntmps A6G (N0 prog gl n0 21 A6K oO):=by
 refine S3 (dep:=60) (f:=109) (n0:=n0) (nB:=21) (H0:=H0) A0e A6H (cxg (B2G.2 t) (wA t)) t func109 A6J A6I C4 C4 C4 ?_;intro us d outs r;have B:=r;unfold oO at r;split at r
 .skip;rename_i z0 n I k i;have w:=B3.1 r;clear r;obtain⟨b,o,r⟩:=w;replace o:=I2 o;subst o;split at r
  .rename_i c;clear r B;have A:=A4U c.2.2.2.2.1 i.toNat;have hh:=A8y A.1 A.2;have J:=A8k A.1 A.2;have C:=fun h=>A8Z (i:=i) c.2.1 h
   refine⟨rfl,?_⟩;unfold A6H;refine w0 (.cons 4 _ (.cons 3 _ (.cons 2 _ (.cons 1 _ (.cons 0 _ (.nil)))))) ?_;repeat (first|refine w4 (fun g=>?_) fun g=>?_|refine bW ?_|refine W5 ?_|(refine w8 ?_;first|omega|(have C:=A8Z (i:=i) c.2.1 A2;omega))|(refine w7 [.int .i64 _,.int .u64 _] ?_;rotate_left)|refine qJ ?_|refine UZ ?_|refine CP ?_|refine kU ?_|refine B24 ?_|refine A9j ?_|refine xZ ?_|refine oU ?_|refine w31 zG (e:=A4C _ A2) (k':=?_)|refine aB ?_|refine wE ?_|(refine w7 [.int .i64 _,.str _,.int .u64 _,D8 rB _,.int .i64 _,.int .i64 _] ?_;rotate_left)|refine aF ?_|refine w1 (.get 1 0) (u:=.int .u8 _) (e:=C9 rfl A2 A2 rfl) (k':=?_)|refine fO ?_|(refine w7 [.int .i64 _,.int .u64 _,.str _] ?_;rotate_left))
   all_goals first
    | refine N3 ?_ ?_
      .have C:=A8Z (i:=i) c.2.1 A2;have D:∀ d,hv ((el b).getD i.toNat default)=d->0<=d->d<16->oO [.str z0,.int .u64 (n*16+d),D8 rB b,.int .i64 k,.int .i64 (i+1)]=oO [.str z0,.int .u64 n,D8 rB b,.int .i64 k,.int .i64 i]:=fun d F H h3=>by
        have q:=A3s (n:=n) c.2.1 (by omega:i<((el b).length:Int)) F H;rw[rN _ _ _ _ _ ⟨c.1,A2,A2,c.2.2.2.1,c.2.2.2.2.1,A2,A2⟩,rN _ _ _ _ _ c,q.1,q.2]
       exact D _ A2 A2 A2
      .rw[A0d,A0d];omega
    | refine I3 (d:=0) ?_
      have q:=A8W (n:=n) (by omega:((el b).length:Int)<=i);rw[rN _ _ _ _ _ c,q.1,q.2];rfl
    | refine I3 (d:=1) ?_
      rw[rN _ _ _ _ _ c,A8V c.2.1 A2 A2];rfl
  .cases r
 .cases r
noncomputable def A3F:List LpE:=[(109,([true,true,true,true,true,true,true,true,true,true,true,false,true,false],N0 prog gl n0 21 A6K oO)),(88,([true,false,true,false],N0 prog gl n0 18 A1j sC))]
def NM{G}(b:K3 G):W9 prog G gl A3F:=(.cons func109 A6J A6I (A97 b) (.cons func88 A1i A1f (A66 b) .nil))
def puB(s:B2):Int:=if s=[]then -1 else(pu (bI s) 0).getD (-1)
def kM(s:B2):Int:=match I9 (niF s) nmL 0 with
 | some j=>1114113+j
 | none=>if s=[83,112,97,99,101]then 32 else if s.length=1 then((s.getD 0 0).toNat:Int)else if s.take 2=[85,43]/\s.length<=8 then puB (s.drop 2)else -1
def A7T{α:Type}{p:α->Bool}:∀ {l:List α} {i j:Int},I9 p l i=some j->i<=j/\j<i+l.length
 | [],i,j,h=>by cases h
 | a::l,i,j,h=>by
   unfold I9 at h;split at h
   .cases h;simp only[C8];omega
   .have:=A7T h;simp only[C8];omega
def A6c(h:I9 (niF s) (List.drop (0:Int).toNat (el (some nmL))) 0=some v):0<=v/\v<26:=by
 have:=A7T h;have e:((List.drop (0:Int).toNat (el (some nmL))).length:Int)=26:=rfl;omega
def B1m(s:B2):∀ x ∈ el (some (bI s)),0<=x/\x<=255:=fun x h=>by have:=A2z (s:=s) h;omega
def B1n{n:Int}(h:(s.length:Int)<=n):((el (some (bI s))).length:Int)<=n:=by show((bI s).length:Int)<=n;rw[pU];exact h
def B1U(h:I9 (niF s) nmL 0=some v):kM s=1114113+v:=by unfold kM;rw[h]
def WQ(h:I9 (niF s) nmL 0=none):kM s=if s=[83,112,97,99,101]then 32 else if s.length=1 then((s.getD 0 0).toNat:Int)else if s.take 2=[85,43]/\s.length<=8 then puB (s.drop 2)else -1:=by unfold kM;rw[h]
def A6L:∀ {l:List Int} {n v:Int},0<=n->pu l n=some v->0<=v/\v<(n+1)*16 ^ l.length
 | [],n,v,h0,h=>by cases h;simp;omega
 | c::l,n,v,h0,h=>by
   unfold pu at h;split at h
   .cases h
   .have b:hv c<16:=by unfold hv;(repeat' split)<;>omega
    have q:=A6L A2 h;have hp:(0:Int)<=16 ^ l.length:=Int.le_of_lt (Int.pow_pos F3);have hm:=Int.mul_le_mul_of_nonneg_right (show n*16+hv c+1<=(n+1)*16 by omega) hp;rw[Int.mul_assoc]at hm;rw[C8,Int.pow_succ,Int.mul_comm ((16:Int) ^ l.length) 16];omega
def B3P(d:(s.length:Int)<=6)(h:puE (List.drop (0:Int).toNat (el (some (bI s)))) 0=none):IntKind.i64.wrap (puV (List.drop (0:Int).toNat (el (some (bI s)))) 0)=(pu (bI s) 0).getD (-1):=by
 have e:List.drop (0:Int).toNat (el (some (bI s)))=bI s:=rfl;rw[e]at h ⊢;unfold puE at h;unfold puV;cases b:pu (bI s) 0 with
 | none=>rw[b]at h;cases h
 | some v =>
   have q:=A6L F3 b;rw[pU]at q;have c:(16:Int) ^ s.length<=16 ^ 6:=by
    have:=dC (n:=16) F3 (show s.length<=6 by omega)
    exact_mod_cast this
   show IntKind.i64.wrap v=v;exact iR A2 A2
def B3O{j:Int}(h:puE (List.drop (0:Int).toNat (el (some (bI s)))) 0=some j):(pu (bI s) 0).getD (-1) = -1:=by
 have e:List.drop (0:Int).toNat (el (some (bI s)))=bI s:=rfl;rw[e]at h;unfold puE at h;cases b:pu (bI s) 0 with
 | none=>rfl
 | some v=>rw[b]at h;cases h
def A99(h:s=[]):puB s = -1:=A9 h
def A0g(h:¬s=[]):puB s=(pu (bI s) 0).getD (-1):=A7 h
def A9T(h:I9 (niF s) nmL 0=none)(h1:¬s=[83,112,97,99,101])(c:¬(s.length:Int)=1)(h3:¬¬List.take ((2:Int).toNat-(0:Int).toNat) (List.drop (0:Int).toNat s)=[85,43])(b:((List.drop (2:Int).toNat s).length:Int)<=6):kM s=puB (List.drop (2:Int).toNat s):=by
 rw[WQ h,A7 h1,A7 A2,A9 ⟨D4.1 h3,by rw[E7]at b;simp at b;omega⟩];rfl
def A9S(h:I9 (niF s) nmL 0=none)(h1:¬s=[83,112,97,99,101])(b:¬(s.length:Int)=1)(h3:¬(s.take 2=[85,43]/\s.length<=8)):kM s = -1:=by
 rw[WQ h,A7 h1,A7 A2,A7 h3]
def B37(h:I9 (niF s) nmL 0=none)(h1:¬s=[83,112,97,99,101])(b:(s.length:Int)=1):kM s=((s.getD 0 0).toNat:Int):=by
 rw[WQ h,A7 h1,A9 A2]
def B36(h:¬2<=(s.length:Int)):¬(s.take 2=[85,43]/\s.length<=8):=fun k=>by have:=E1 List.length k.1;rw[G6]at this;simp at this;omega
def B35(h:¬((List.drop (2:Int).toNat s).length:Int)<=6):¬(s.take 2=[85,43]/\s.length<=8):=fun k=>by rw[E7]at h;have:=k.2;simp at h;omega
noncomputable def B2i:P0:=⟨_,fun b=>(.cons (A05 b) (.cons (A6g b) (.cons (A7i b) .nil)))⟩
def MV:List U->Option (Nat×List U)
 | [.str s]=>if(s.length:Int)<=140737488351232 then some (0,[.int .i64 (kM s)])else none
 | _=>none
def A4x(s:B2)(b:(s.length:Int)<=140737488351232):MV [.str s]=some (0,[.int .i64 (kM s)]):=A9 b
def A2j(n:Nat):Tr:=aE [h 0 9,.string ⟨⟨[83,112,97,99,101]⟩⟩]<|.br n (I4 32) (aD [h 0 9]<|J1 (n+1) (n+2) 1 (.lt 4 (.idx) [h 0 9,jI 0]<|.lt 3 (.conv .i64) [h (n+3) 4]<|.ret [h3 (n+4)]) (I4 (-1)))
def y9(a0:Int)(d:Nat)(a2:Nat)(c b:Tr):Tr:=aD [h d 9]<|aH [h3 a2,jI a0]<|.br (a2+1) c b
def A2i(n:Nat):Tr:=y9 2 0 n (.lt 9 (.sub) [h 0 9,jI 0,jI 2]<|aE [h (n+2) 9,.string ⟨⟨[85,43]⟩⟩]<|M5 (n+3) (n+4) (A2j (n+5)) (.lt 9 (.sub1) [h 0 9,jI 2]<|aE [h 0 9,.string ⟨⟨[83,112,97,99,101]⟩⟩]<|.br (n+6) (I4 32) (aD [h 0 9]<|J1 (n+7) (n+8) 1 (.lt 4 (.idx) [h 0 9,jI 0]<|.lt 3 (.conv .i64) [h (n+9) 4]<|.ret [h3 (n+10)]) (aD [h (n+5) 9]<|S2 (n+9) (n+10) 6 (aE [h (n+5) 9,.string ⟨⟨[]⟩⟩]<|.br (n+11) (.fn ES [h (n+5) 9] 1<|I4 (-1)) (.dt 11 (.byt) [h (n+5) 9]<|aD [h (n+12) 11]<|.lp oO [h (n+5) 9,.int .u64 (0),h (n+12) 11,h3 (n+13),jI 0] 0 2 (.lt 3 (.conv .i64) [h (n+14) 7]<|.ret [h3 (n+16)]) (.lp oO [h (n+5) 9,.int .u64 (0),h (n+12) 11,h3 (n+13),jI 0] 1 1 (.fn ES [h (n+5) 9] 1<|I4 (-1)) (.no)))) (I4 (-1)))))) (A2j (n+2))
def A7g:Tr:=.fn zD [] 1<|aD [h 1 11]<|.lp sC [h 1 11,h 0 9,h3 2,jI 0] 0 0 (A2i 3) (.lp sC [h 1 11,h 0 9,h3 2,jI 0] 1 1 (J4 3 4 0 (aA [jI 1114113,h3 3]<|.ret [h3 5]) (A2i 5)) (.no))
def B1W{G}(b:K3 G):L2 prog G 51 [.s 9] MV [.s 3]:=by
 refine F2 (d:=60) A7g (cxg (B2i.2 b) (NM b)) b ⟨f51,_,func51,rfl⟩ C4 C4 ?_;intro us outs c;unfold MV at c;split at c
 .skip;rename_i s;split at c
  .rename_i n;cases c;have f:=XN (s.getD (0:Int).toNat 0);unfold A7g;refine w0 (.cons 0 _ (.nil)) ?_;repeat (first|(refine w7 [.int .i64 _] ?_;rotate_left)|refine w4 (fun g=>?_) fun g=>?_|refine xZ ?_|refine oU ?_|refine gS ?_|refine NX ?_|refine fO ?_|refine w1 (.idx) (e:=QC _ _ _ A2 A2) (k':=?_)|refine w31 ES (e:=A4z _ A2) (k':=?_)|refine eN ?_|refine kU ?_|refine w1 (.sub) (e:=eA _ _ _ _ _ A2 A2 A2) (k':=?_)|refine Z6 ?_|refine w1 (.sub1) (e:=nX _ _ _ A2 A2) (k':=?_)|refine qJ ?_|refine w2 (.byt) (r:=rB) (e:=A4i _ rfl) (k':=?_)|(refine w6 oO (rN _ _ _ _ _ ⟨by first|rfl,F3,by first|omega,by first|exact B1n ‹_›,by first|exact B1m _,F3,F3⟩) (h0:=fun g=>?_) (h1:=fun v g=>?_);show Wk _ _ (.cons _ _ (.cons _ _ _));rotate_left;show Wk _ _ (.cons _ _ _);rotate_right)|refine bW ?_|refine W5 ?_|refine w31 zD (e:=SL ) (k':=?_)|(refine w6 sC (sB _ _ _ _ ⟨rfl,F3,by show(0:Int)<=26;decide,by show(26:Int)<=_;decide⟩) (h0:=fun g=>?_) (h1:=fun v g=>?_);skip;rotate_left;show Wk _ _ (.cons _ _ _);rotate_right))
   all_goals
    refine l0 ?_;symm;first
    | (exfalso;have:=A6c ‹_›;omega)
    | (have hv:=A6c ‹_›;rw[B1U ‹_›];first|done|(symm;exact iR A2 A2))
    | (rw[WQ ‹_›,A9 ‹_›];done)
    | (rw[B37 ‹_› ‹_› ‹_›];first|rfl|(symm;exact iR A2 A2))
    | (rw[A9T ‹_› ‹_› ‹_› ‹_› ‹_›,A99 ‹_›];done)
    | (rw[A9T ‹_› ‹_› ‹_› ‹_› ‹_›,A0g ‹_›,B3P ‹_› ‹_›];done)
    | (rw[A9T ‹_› ‹_› ‹_› ‹_› ‹_›,A0g ‹_›,B3O ‹_›];done)
    | exact A9S ‹_› ‹_› ‹_› (B36 ‹_›)
    | exact A9S ‹_› ‹_› ‹_› (B35 ‹_›)
    | exact A9S ‹_› ‹_› ‹_› (fun k=>(by assumption:¬List.take ((2:Int).toNat-(0:Int).toNat) (List.drop (0:Int).toNat s)=[85,43]) k.1)
  .cases c
 .cases c
end
end Go.Proofs.YtbbicpheoakeeaaGreatDoor
